/-
  All entries of a tree, as the program tells them; an append onto a slice that is full and only read; slices.Clip. Printed by gen_fw7.py.
-/
import Derived.Test.YtjmllpgmbaoebaaDoorFoldAF3
namespace Go.SL
section
variable {P : Program} {w : World} {l : List HProp}
theorem reads_cap {ao : Option Addr} {n c : Nat} {xs : List Value} (h : reads (.slice ao n c) n xs w) (c' : Nat) : reads (.slice ao n c') n xs w := by
  obtain ⟨a, c0, e, h1, h2⟩ := h
  cases e
  exact ⟨_, c', rfl, h1, h2⟩
theorem Ent.appendFull {e : TypeId} {size bytes : Nat} {t : TypeId} (ty : TypeId) (hE : Ent l w) (ht : P.underlying t = some (.slice e)) (hI : elemInfo P e = some (some size, size, bytes)) (hsz : 0 < size)
    {ao : Option Addr} {n : Nat} {xs : List Value} (hr : reads (.slice ao n n) n xs w) (hxl : xs.length = n * size)
    {ad : Addr} {m c : Nat} {news : List Value} (hx : reads (.slice (some ad) m c) m news w) (hl : news.length = m * size) (hm : 0 < m) (h1 : ∀ u ∈ news, u.oneCell' = true) (hbytes : (n + m) * bytes ≤ 140737488355328) (h63 : n + m ≤ 140737488355328) :
    ∃ ao' c' w', (Builtin.append_ #[t, t] ty #[.slice ao n n, .slice (some ad) m c]).run P w = .ok (.slice ao' (n + m) c') w' ∧ Ent (row e size (.slice ao' (n + m) c') (n + m) (xs ++ news) :: l) w' := by
  obtain ⟨i, z, hi, hz, hs, hb, hzs⟩ := elemInfo_parts hI
  subst hs hb
  obtain ⟨ao2, c2, e2, hnone, hc⟩ := hr
  cases e2
  obtain ⟨ad3, c3, e3, _, hc3⟩ := hx
  cases e3
  have hsrc := Src.ofSlice (P := P) w ht ad m c news hl (hc3 ad rfl) h1
  have hlen : (xs ++ news).length = (n + m) * i.size := by rw [List.length_append, hxl, hl, Nat.add_mul]
  have hzero : ∀ k, (Builtin.zeroCells z.cells k).size = k * i.size := fun k => by rw [size_zeroCells, hzs]
  have hold : (Builtin.firstCells i.size n (.slice ao n n)).run P w.drew = .ok xs.toArray w.drew := by
    cases ao with
    | none =>
      obtain ⟨rfl, rfl⟩ := hnone rfl
      exact run_firstCells_none w.drew i.size 0 0 0
    | some a => exact run_firstCells_some w.drew i.size n a n n xs hxl (hc a rfl)
  have hr := run_append_grow_src w t t ty e i z ht hi hz ao n n xs hold (.slice (some ad) m c) m news hsrc (by omega) (by omega) (growslice_fits (by omega) hbytes)
  have hge := grownCap_ge w (n + m) n e
  refine ⟨_, _, _, hr, hE.step0 (Bs := [row e i.size _ (n + m) (xs ++ news)]) ⟨rfl, rfl, rfl⟩ (by simp) (fun b hb => RowKit.Below.heap_alloc w.drew _ b hb) ⟨fun b => b = w.heap.size, on_single ?_, fun b hb => by omega⟩⟩
  unfold row
  refine ⟨⟨hlen, .inr ⟨w.heap.size, _, _, rfl, Nat.zero_le _, heap_alloc_new w.drew _, hge, grownCap_le_maxLen w (n + m) n e (by unfold maxLen; omega), ?_, ?_⟩⟩, fun b => by simp [Value.ownBlock, eq_comm]⟩
  · rw [Array.size_append, hzero, List.size_toArray, hlen, ← Nat.add_mul]
    congr 1
    omega
  · rw [Array.toList_append, ← hlen]
    exact List.take_left
variable {ops : Array Oper} {o : Oper} {a : Act} {K : Act → World → Prop} {Q : Exit → Act → World → Prop} {E : Prop}
theorem step_appendFull {e : TypeId} {size bytes : Nat} {t : TypeId} (hE : Ent l w) {s y : Operand} (ho : o.op = .call { callee := .builtin .append, args := #[s, y], argTypes := #[t, t] }) (hw : Region.wanted o (yielded ops a.tmps) = true)
    {ao : Option Addr} {n : Nat} (hs : a.eval s = .slice ao n n) {ad : Addr} {m c : Nat} (hy : a.eval y = .slice (some ad) m c) (ht : P.underlying t = some (.slice e)) (hI : elemInfo P e = some (some size, size, bytes)) (hsz : 0 < size)
    {xs : List Value} (hr : reads (.slice ao n n) n xs w) (hxl : xs.length = n * size) {news : List Value} (hx : reads (.slice (some ad) m c) m news w) (hl : news.length = m * size) (hm : 0 < m) (h1 : ∀ u ∈ news, u.oneCell' = true) (hbytes : (n + m) * bytes ≤ 140737488355328) (h63 : n + m ≤ 140737488355328)
    (h : ∀ ao' c' w', Ent (row e size (.slice ao' (n + m) c') (n + m) (xs ++ news) :: l) w' → K (a.put o.dst (.slice ao' (n + m) c')) w') : if Region.wanted o (yielded ops a.tmps) = true then Oper.wp P o a w K Q else E := by
  rw [if_pos hw]
  obtain ⟨ao', c', w', hr0, hE'⟩ := hE.appendFull (P := P) o.type ht hI hsz hr hxl hx hl hm h1 hbytes h63
  unfold Oper.wp execOp
  simp only [ho, resolve, invoke, builtin, Sem.run_bind, Sem.run_pure, Result.andThen_ok, List.map_toArray, List.map_cons, List.map_nil, hs, hy, hr0]
  exact h ao' c' w' hE'
theorem step_build1 (hE : Ent l w) {t e : TypeId} {x : Operand} (ho : o.op = .buildSlice t 1 #[(0, x)]) (hw : Region.wanted o (yielded ops a.tmps) = true) {xs : List Value} (hx : a.eval x = .agg xs.toArray)
    (ht : P.underlying t = some (.slice e)) {size : Nat} (hI : zeroSize P e = some size) (hn : ∀ w, (Go.sizeOf e).run P w = .ok size w) (h0 : 0 < size) (h24 : size ≤ 16777216) (hxl : xs.length = size)
    (h : ∀ b w', Ent (pt b (.cells xs.toArray e) :: l) w' → K (a.put o.dst (.slice (some ⟨b, 0, none⟩) 1 1)) w') : if Region.wanted o (yielded ops a.tmps) = true then Oper.wp P o a w K Q else E := by
  have hr := run_buildSlice1 (P := P) (w := w) ht hI hn h0 h24 xs hxl
  refine step_run hw (w' := w.alloc (.cells xs.toArray e)) (v := .slice (some ⟨w.heap.size, 0, none⟩) 1 1) ?_ (h _ _ (hE.alloc _))
  simp [execOp, ho, hx, hr]
/-- one cell written, as one step of a region that draws -/
theorem step_setC (hE : Ent l w) (i : Nat) {b : Nat} {cur : Array Value} {T : TypeId} (hi : l[i]? = some (pt b (.cells cur T (0, 0))))
    {t : TypeId} {x y : Operand} (ho : o.op = .store t x y) (hw : Region.wanted o (yielded ops a.tmps) = true) {off : Nat} (hx : a.eval x = .pointer (some ⟨b, off, none⟩)) {v : Value} (hy : a.eval y = v)
    (hn : ∀ w, (Go.sizeOf t).run P w = .ok 1 w) (hv : v.cells = #[v]) (h1 : v.oneCell' = true) (hfit : off < cur.size)
    (h : ∀ w', Ent (l.set i (pt b (.cells (cur.setIfInBounds off v) T (0, 0)))) w' → K (a.put o.dst undef) w') : if Region.wanted o (yielded ops a.tmps) = true then Oper.wp P o a w K Q else E := by
  rw [if_pos hw]
  have hr := run_storeV (P := P) hE i hi (t := t) (v := v) (n := 1) hn (by rw [hv]; rfl) (by rw [hv]; simpa using h1) (off := off) (by omega)
  have e : (cur.toList.take off ++ v.cells.toList ++ cur.toList.drop (off + v.cells.toList.length)).toArray = cur.setIfInBounds off v := by
    rw [hv]
    apply Array.ext'
    rw [Array.toList_setIfInBounds, List.set_eq_take_append_cons_drop, if_pos (by simpa using hfit)]
    simp
  rw [e] at hr
  have hx2 : (execOp a.eval o).run P w = .ok .skip (w.setRow b (cur.setIfInBounds off v)) := by simp [execOp, ho, hx, hy, hr]
  simp only [Oper.wp, hx2, Oper.upon]
  exact h _ (hE.setRow i hi _)
end
end Go.SL
namespace Go.Proofs.YtjmllpgmbaoebaaDoor
open Go.RowKit Go.SL

theorem Clip_any (ao : Option Addr) (n c : Nat) (h : n ≤ c) (w : World) : Calls Tryd.prog 32 #[.slice ao n c] w (fun e w' => e = .returned (.slice ao n n) ∧ w' = w) := by
  have hs : ∀ w, (Instr.sliceAt 23 (.slice ao n c) none (some (.int .i64 n)) (some (.int .i64 n))).run Tryd.prog w = .ok (.slice ao n n) w := fun w => by
    rw [sliceAt_slice Tryd.underlying23]
    have hz : ∀ w, (Go.sizeOf 9).run Tryd.prog w = .ok 1 w := fun w => by first | (simp [go_sem]; done) | (simp [go_sem]; rfl)
    have a1 : ((n : Int) ≤ (c : Int)) := by omega
    cases ao with
    | none => simp [Instr.slice, run_underlying Tryd.underlying23, Instr.sliceBounds, Instr.sliceBound, asIntOf, hz, a1, h]
    | some a => simp [Instr.slice, run_underlying Tryd.underlying23, Instr.sliceBounds, Instr.sliceBound, asIntOf, hz, a1, h, Addr.add]
  go_enter Tryd.func32, Tryd.ntmps32
  go_wp2
  go_ret
  exact ⟨rfl, rfl⟩

abbrev rowEn (ao : Option Addr) (c : Nat) (xs : List En) : HProp := row 41 3 (.slice ao xs.length c) xs.length (xs.flatMap enC)
theorem info_en : elemInfo Tryd.prog 41 = some (some 3, 3, 40) := by kernel_rfl
theorem zs_en : zeroSize Tryd.prog 41 = some 3 := by kernel_rfl
theorem zs_st : zeroSize Tryd.prog 9 = some 1 := by kernel_rfl
def boO (bo : Nat) (ao : Option Addr) (n c : Nat) : HProp := pt bo (.cells #[.slice ao n c] 22)
def boW (bo bw : Nat) : HProp := pt bw (.cells #[.func (.func 31) #[] #[.pointer (some ⟨bo, 0, none⟩), .pointer (some ⟨bw, 0, none⟩)]] 66)
/-- the contract of the walk through a tree, so deep -/
def WalkC (bo bw d : Nat) : Prop := ∀ (t : Tr), Tr.Wf d t → ∀ (kv : Value) (q : List (List UInt8)) (an : Option Addr) (cn : Nat) (lb : List HProp) (pre : List En) (ao : Option Addr) (co : Nat) (w : World), KidsAt lb kv t.kids → q.length ≤ cn → q.length + d ≤ 100 → (∀ x ∈ q, x.length ≤ 600) →
  Knows lb (reads (.slice an q.length cn) q.length (q.map strv)) → pre.length + (entT d q t).length ≤ 1000000 → Ent (boO bo ao pre.length co :: boW bo bw :: rowEn ao co pre :: lb) w →
  Calls Tryd.prog 31 #[nodeV t kv, .slice an q.length cn, .pointer (some ⟨bo, 0, none⟩), .pointer (some ⟨bw, 0, none⟩)] w
    (Ret fun _ w' => ∃ ao' co', Ent (boO bo ao' (pre ++ entT d q t).length co' :: boW bo bw :: rowEn ao' co' (pre ++ entT d q t) :: lb) w')
set_option maxRecDepth 100000 in
theorem walk_none {bo bw : Nat} {t : Tr} (h : t.kids = []) {kv : Value} {an : Option Addr} {n cn : Nat} {lb : List HProp} {L : List HProp} {w : World} (hkv : KidsAt lb kv t.kids) (hE : Ent L w) :
    Calls Tryd.prog 31 #[nodeV t kv, .slice an n cn, .pointer (some ⟨bo, 0, none⟩), .pointer (some ⟨bw, 0, none⟩)] w (Ret fun _ w' => Ent L w') := by
  obtain ⟨td, tb, ks⟩ := t
  obtain rfl : ks = [] := h
  obtain ⟨ao, c, vs, rfl, _⟩ := hkv.open
  simp only [nodeV, Tr.dir, Tr.data, Tr.kids, List.length_nil]
  go_enter Tryd.func31, Tryd.ntmps31
  go_wp2_with (first
    | go_skip
    | ((with_reducible (show Go.wpList _ _ _ (Go.Oper.mk _ (.box _ _) _ _ _ _ :: _) _ _)); refine wpl_box hE rfl rfl rfl ?_; clear hE; intro b4 w hE; simp only [Act.eval, Act.put, List.setIfInBounds_toArray, List.set_cons_zero, List.set_cons_succ, getD_lit, List.getD_cons_succ, List.getD_cons_zero, Value.cells] at hE)
    | ((with_reducible (show Go.wpList _ _ _ (Go.Oper.mk _ (.load 26 _) _ _ _ _ :: _) _ _)); refine wpl_load1 hE 0 rfl rfl rfl rfl (by simp [go_sem]) rfl ?_))
  go_loopw [12] (fun i wr => i = .int .i64 0 ∧ Ent L wr) (fun _ _ => 0)
  case atStart => exact ⟨rfl, hE.tail⟩
  case round =>
    clear hE
    obtain ⟨rfl, hE⟩ := hrel
    go_wp2
    refine bodyPost_ret (results_none rfl _ _ _) rfl ?_
    exact ⟨_, rfl, hE⟩

def WkRel (bo bw d : Nat) (q : List (List UInt8)) (ks : List (List UInt8 × Tr)) (pre : List En) (lb : List HProp) (i : Value) (wr : World) : Prop :=
  ∃ (k : Nat) (ao : Option Addr) (co : Nat) (out : List En), k ≤ ks.length ∧ i = .int .i64 k ∧ out = pre ++ (ks.take k).flatMap (fun x => entOf q x :: entT d (q ++ [x.1]) x.2) ∧ Ent (boO bo ao out.length co :: boW bo bw :: rowEn ao co out :: lb) wr
theorem Ent.dropLast {A B C D : HProp} {l : List HProp} {w : World} (h : Ent (A :: B :: C :: D :: l) w) : Ent (A :: B :: C :: l) w := h.erase 3
set_option maxRecDepth 100000 in
set_option maxHeartbeats 8000000 in
attribute [-go_sem] Instr.loadAt in
theorem walk_step {bo bw d : Nat} (IH : WalkC bo bw d) : WalkC bo bw (d + 1) := by
  intro t hw kv q an cn lb pre ao0 co0 w hkv hcn hqd hq6 hn hbig hE
  obtain ⟨td, tb, ks⟩ := t
  have hk6 : ks.length ≤ 6 := hw.2.2.2.1
  have hwk := hw.2.2.2.2.2
  obtain ⟨ak, ck, vs, rfl, hc, hl, hkk, hks, hone⟩ := hkv.open
  replace hl : vs.length = ks.length := hl
  replace hkk : Knows lb (reads (.slice ak ks.length ck) ks.length (kCs ks vs)) := hkk
  replace hks : ∀ (i : Nat) (h : i < ks.length) (h' : i < vs.length), KidsAt lb vs[i] ks[i].2.kids := hks
  have hent : entT (d + 1) q (.nd td tb ks) = ks.flatMap fun x => entOf q x :: entT d (q ++ [x.1]) x.2 := rfl
  rw [hent] at hbig ⊢
  simp only [nodeV, Tr.dir, Tr.data, Tr.kids] at *
  clear hone hkv hw hent
  unfold boO boW at hE ⊢
  go_enter Tryd.func31, Tryd.ntmps31
  go_wp2_with (first
    | go_skip
    | ((with_reducible (show Go.wpList _ _ _ (Go.Oper.mk _ (.box _ _) _ _ _ _ :: _) _ _)); refine wpl_box hE rfl rfl rfl ?_; clear hE; intro b4 w hE; simp only [Act.eval, Act.put, List.setIfInBounds_toArray, List.set_cons_zero, List.set_cons_succ, getD_lit, List.getD_cons_succ, List.getD_cons_zero, Value.cells] at hE)
    | ((with_reducible (show Go.wpList _ _ _ (Go.Oper.mk _ (.load 26 _) _ _ _ _ :: _) _ _)); refine wpl_load1 hE 0 rfl rfl rfl rfl (by simp [go_sem]) rfl ?_))
  replace hE := hE.tail
  go_loopw [12] (fun i wr => WkRel bo bw d q ks pre lb i wr) (fun i _ => ks.length - (intOf i).toNat)
  case atStart => exact ⟨0, ao0, co0, pre, Nat.zero_le _, rfl, by simp, hE⟩
  case round =>
    clear hE
    obtain ⟨k, ao, co, out, hkn, rfl, hout, hE⟩ := hrel
    by_cases hlt : k < ks.length
    · obtain ⟨b, off, rfl, hz⟩ := kids_at hl (hkk _ hE.tail.tail.tail) hlt
      clear hz
      have hL := SL.hid (show ∀ W, Ent lb W → ∀ j v, (kC ks[k] (vs[k]'(by omega)))[j]? = some v → W.cell? ⟨b, off + k * 4 + j, none⟩ = some v from fun W hW => by
        obtain ⟨b', off', e, h⟩ := kids_at hl (hkk _ hW) hlt
        cases e
        exact h)
      have hkid := hks k hlt (by omega)
      have hwx := hwk _ (List.getElem_mem hlt)
      have htake := List.take_succ_eq_append_getElem hlt
      have hlen2 : out.length + (entOf q ks[k] :: entT d (q ++ [ks[k].1]) ks[k].2).length ≤ 1000000 := by
        have e : ks = ks.take k ++ ks[k] :: ks.drop (k + 1) := by rw [← List.drop_eq_getElem_cons hlt, List.take_append_drop]
        have h2 : ((ks.take k).flatMap (fun x => entOf q x :: entT d (q ++ [x.1]) x.2)).length + (entOf q ks[k] :: entT d (q ++ [ks[k].1]) ks[k].2).length ≤ (ks.flatMap (fun x => entOf q x :: entT d (q ++ [x.1]) x.2)).length := by
          conv => rhs; rw [e, List.flatMap_append, List.flatMap_cons, List.length_append, List.length_append]
          omega
        rw [hout, List.length_append]
        omega
      have hnx := (name_len hwx.1).2
      have Hout := SL.hid (show (out ++ [entOf q ks[k]]) ++ entT d (q ++ [ks[k].1]) ks[k].2 = pre ++ (ks.take (k + 1)).flatMap (fun x => entOf q x :: entT d (q ++ [x.1]) x.2) from by
        rw [htake, List.flatMap_append, hout]
        simp [List.append_assoc])
      obtain ⟨kvp, hkvp⟩ : ∃ x, vs[k]'(by omega) = x := ⟨_, rfl⟩
      rw [hkvp] at hL hkid
      have Hv1 := SL.hid (show kvp.oneCell' = true from by obtain ⟨a1, a2, e⟩ := hkid.slice; rw [e]; rfl)
      clear hkvp htake hout
      generalize ks[k] = x at *
      obtain ⟨xn, xt⟩ := x
      simp only at hkid hwx hnx Hout hlen2
      have Hlen2 := SL.hid hlen2
      have hqx : ∀ y ∈ q ++ [xn], y.length ≤ 600 := fun y hy => by
        rcases List.mem_append.1 hy with h | h
        · exact hq6 y h
        · rw [List.mem_singleton.1 h]; omega
      have Hqx := SL.hid hqx
      have HI := SL.hid (fun (an : Option Addr) (cn : Nat) (lb' : List HProp) (out' : List En) (ao : Option Addr) (co : Nat) (w : World) (hkv : KidsAt lb' kvp xt.kids) (hcn : (q ++ [xn]).length ≤ cn) (hn : Knows lb' (reads (.slice an (q ++ [xn]).length cn) (q ++ [xn]).length ((q ++ [xn]).map strv))) (hb : out'.length + (entT d (q ++ [xn]) xt).length ≤ 1000000) (hE : Ent (boO bo ao out'.length co :: boW bo bw :: rowEn ao co out' :: lb') w) =>
        IH xt hwx.2 kvp (q ++ [xn]) an cn lb' out' ao co w hkv hcn (by simp; omega) hqx hn hb hE)
      have HJ := SL.hid (fun (ao : Option Addr) (c : Nat) (hc : (q ++ [xn]).length ≤ c) (l : List HProp) (w : World) (hE : Ent l w) (hk : Knows l (reads (.slice ao (q ++ [xn]).length c) (q ++ [xn]).length ((q ++ [xn]).map strv))) => Join_any (by simp; omega) hqx hc hE hk)
      have hql : (q ++ [xn]).length = q.length + 1 := by simp
      have hqm : (q ++ [xn]).map strv = q.map strv ++ [strv xn] := by simp
      rw [hql, hqm] at HI HJ
      have HN := SL.hid (show Knows lb (reads (.slice an q.length q.length) q.length (q.map strv)) from fun w h => reads_cap (hn w h) _)
      have Hcn := SL.hid hcn
      have Hql := SL.hid (show q.length ≤ 100 from by omega)
      have hCl := fun w => Clip_any an q.length cn hcn w
      simp only [nodeV] at HI
      generalize hp : joinP (q ++ [xn]) = jp at *
      have Hp := SL.hid hp
      clear hp hql hqm hqx hn hcn hqd hlen2 hwx hbig
      unfold boO boW at HI hE
      have He := SL.hid (show entOf q (xn, xt) = ⟨jp, xt.dir, xt.data⟩ from by rw [entOf]; simp only [Hp.out])
      as_aux_lemma =>
      go_wp2_with (first
        | go_skip
        | ((with_reducible (show Go.wpList _ _ _ (Go.Oper.mk _ (.load 51 _) _ _ _ _ :: _) _ _)); refine wpl_loadC rfl rfl rfl Tryd.isAgg51 Tryd.sizeOf51 (kC (xn, xt) kvp) rfl (fun j v hv => by rw [Addr.add_lit]; exact hL.out _ (hE.suf (by repeat (first | exact List.suffix_refl _ | refine List.IsSuffix.trans ?_ (List.suffix_cons _ _)))) j v hv) ?_)
        | ((with_reducible (show Go.wpList _ _ _ (Go.Oper.mk _ (.alloc 51) _ _ _ _ :: _) _ _)); refine wpl_allocN hE rfl rfl (n := 4) (by kernel_rfl) ?_; clear hE; intro b7 cs w1 hq hE)
        | ((with_reducible (show Go.wpList _ _ _ (Go.Oper.mk _ (.store 51 _ _) _ _ _ _ :: _) _ _)); refine wpl_storeN hE 0 rfl rfl rfl rfl (xs := [.string ⟨xn.toArray⟩, .bool xt.dir, .string ⟨xt.data.toArray⟩, kvp]) rfl Tryd.sizeOf51 rfl (by simp [Value.oneCell']; have := Hv1.out; simpa [Value.oneCell'] using this) hq ?_; clear hE hq; intro w2 hE; simp only [List.set_cons_zero] at hE))
      refine wp_region_held_drew (S := (fun w' => ((Instr.loadAt 9 (.pointer (some ⟨b7, 0, none⟩))).run Tryd.prog w' = .ok (.string ⟨xn.toArray⟩) w'))) (by kernel_rfl) (atVm hE.drew (by repeat (first | exact List.Mem.head _ | refine List.Mem.tail _ ?_)) (by simp [go_sem]) rfl) (fun hS => ?_)
      refine takeW 0 ⟨some 16, .move (.tmp 1), 23, "fold.go:124", #[], none⟩ ?_ (.inl ⟨by rfl, ?_⟩) hS ?_
      rotate_left
      · (intro w hSw; (try dsimp only at hSw); go_simp; (try with_reducible rfl))
      try simp only [Act.put, sb, s0, sz]
      refine takeW 2 ⟨some 18, .fieldAddr 51 (.tmp 7) 0, 0, "fold.go:124", #[], none⟩ ?_ (.inl ⟨by rfl, ?_⟩) hS ?_
      rotate_left
      · (intro w hSw; (try dsimp only at hSw); go_simp; (try with_reducible rfl))
      try simp only [Act.put, sb, s0, sz]
      refine takeW 3 ⟨some 19, .load 9 (.tmp 18), 9, "fold.go:124", #[⟨2, .data⟩], none⟩ ?_ (.inl ⟨by rfl, ?_⟩) hS ?_
      rotate_left
      · (intro w hSw; (try dsimp only at hSw); go_simp; (try with_reducible rfl))
      try simp only [Act.put, sb, s0, sz]
      refine wpAnyH_ready (rs := [1, 4]) (by kernel_rfl) (by simp) ?_
      refine (AllReadyH.cons (o := { dst := some 17, op := Go.Op.call { callee := Go.Callee.value (Go.Operand.func 32), args := #[Go.Operand.tmp 16], argTypes := #[23] }, type := 23, pos := "fold.go:124", after := #[{ on := 0, ground := Go.Ground.data }], guard := none }) rfl (fun K hK => ?_) (AllReadyH.cons (o := { dst := some 20, op := Go.Op.buildSlice 23 1 #[(0, Go.Operand.tmp 19)], type := 23, pos := "fold.go:124", after := #[{ on := 3, ground := Go.Ground.data }], guard := none }) rfl (fun K hK => ?_) AllReadyH.nil))
      focus
        (go_simp; refine (hCl _).mono ?_; rintro e w3 ⟨rfl, rfl⟩)
        refine hK.out _ _ (by first | exact (atVm hB (by repeat (first | exact List.Mem.head _ | refine List.Mem.tail _ ?_)) (by simp [go_sem]) rfl) | exact (atVm hE.drew (by repeat (first | exact List.Mem.head _ | refine List.Mem.tail _ ?_)) (by simp [go_sem]) rfl)) (fun hS => ?_)
        clear hK K
        try simp only [Act.put, sb, s0, sz]
        refine wpAnyH_ready (rs := [4]) (by kernel_rfl) (by simp) ?_
        refine (AllReadyH.cons (o := { dst := some 20, op := Go.Op.buildSlice 23 1 #[(0, Go.Operand.tmp 19)], type := 23, pos := "fold.go:124", after := #[{ on := 3, ground := Go.Ground.data }], guard := none }) rfl (fun K hK => ?_) AllReadyH.nil)
        (go_simp; have hB := hE.drew.alloc (.cells #[.string ⟨xn.toArray⟩] 9))
        refine hK.out _ _ (atVm hB (by repeat (first | exact List.Mem.head _ | refine List.Mem.tail _ ?_)) (by simp [go_sem]) rfl) (fun hS => ?_)
        clear hK K
        try simp only [Act.put, sb, s0, sz]
        refine wpAnyH_ready (rs := [5]) (by kernel_rfl) (by simp) ?_
        refine (AllReadyH.cons (o := { dst := some 21, op := Go.Op.call { callee := Go.Callee.builtin Go.Builtin.append, args := #[Go.Operand.tmp 17, Go.Operand.tmp 20], argTypes := #[23, 23] }, type := 23, pos := "fold.go:124", after := #[{ on := 1, ground := Go.Ground.data }, { on := 4, ground := Go.Ground.data }, { on := 1, ground := Go.Ground.chain }], guard := none }) rfl (fun K hK => ?_) AllReadyH.nil)
        (refine step_appendFull hB rfl (by rfl) (by rfl) (by rfl) Tryd.underlying23 info_str (by decide) (HN.out _ (hB.suf (by repeat (first | exact List.suffix_refl _ | refine List.IsSuffix.trans ?_ (List.suffix_cons _ _))))) (by simp) (m := 1) (news := [strv xn]) (reads_pt hB 0 rfl (off := 0) (fun j u hu => by rw [Nat.zero_add]; simpa [strv] using hu)) rfl (by decide) (by simp [strv, Value.oneCell']) (by have := Hql.out; omega) (by have := Hql.out; omega) ?_; intro aa ca w5 hA)
        refine hK.out _ _ (atVm hA (by repeat (first | exact List.Mem.head _ | refine List.Mem.tail _ ?_)) (by simp [go_sem]) rfl) (fun hS => ?_)
        clear hK K
        try simp only [Act.put, sb, s0, sz]
        refine takeW 6 ⟨some 8, .assign (.tmp 21), 23, "fold.go:124", #[⟨5, .data⟩, ⟨5, .chain⟩, ⟨0, .phase⟩, ⟨1, .phase⟩, ⟨2, .phase⟩, ⟨3, .phase⟩, ⟨4, .phase⟩, ⟨5, .phase⟩], none⟩ ?_ (.inl ⟨by rfl, ?_⟩) hS ?_
        rotate_left
        · (intro w hSw; (try dsimp only at hSw); go_simp; (try with_reducible rfl))
        try simp only [Act.put, sb, s0, sz]
        refine wpAnyH_done (by kernel_rfl) ?_ _
      rotate_right
      focus
        (go_simp; have hB := hE.drew.alloc (.cells #[.string ⟨xn.toArray⟩] 9))
        refine hK.out _ _ (atVm hB (by repeat (first | exact List.Mem.head _ | refine List.Mem.tail _ ?_)) (by simp [go_sem]) rfl) (fun hS => ?_)
        clear hK K
        try simp only [Act.put, sb, s0, sz]
        refine wpAnyH_ready (rs := [1]) (by kernel_rfl) (by simp) ?_
        refine (AllReadyH.cons (o := { dst := some 17, op := Go.Op.call { callee := Go.Callee.value (Go.Operand.func 32), args := #[Go.Operand.tmp 16], argTypes := #[23] }, type := 23, pos := "fold.go:124", after := #[{ on := 0, ground := Go.Ground.data }], guard := none }) rfl (fun K hK => ?_) AllReadyH.nil)
        (go_simp; refine (hCl _).mono ?_; rintro e w3 ⟨rfl, rfl⟩)
        refine hK.out _ _ (by first | exact (atVm hB (by repeat (first | exact List.Mem.head _ | refine List.Mem.tail _ ?_)) (by simp [go_sem]) rfl) | exact (atVm hE.drew (by repeat (first | exact List.Mem.head _ | refine List.Mem.tail _ ?_)) (by simp [go_sem]) rfl)) (fun hS => ?_)
        clear hK K
        try simp only [Act.put, sb, s0, sz]
        refine wpAnyH_ready (rs := [5]) (by kernel_rfl) (by simp) ?_
        refine (AllReadyH.cons (o := { dst := some 21, op := Go.Op.call { callee := Go.Callee.builtin Go.Builtin.append, args := #[Go.Operand.tmp 17, Go.Operand.tmp 20], argTypes := #[23, 23] }, type := 23, pos := "fold.go:124", after := #[{ on := 1, ground := Go.Ground.data }, { on := 4, ground := Go.Ground.data }, { on := 1, ground := Go.Ground.chain }], guard := none }) rfl (fun K hK => ?_) AllReadyH.nil)
        (refine step_appendFull hB rfl (by rfl) (by rfl) (by rfl) Tryd.underlying23 info_str (by decide) (HN.out _ (hB.suf (by repeat (first | exact List.suffix_refl _ | refine List.IsSuffix.trans ?_ (List.suffix_cons _ _))))) (by simp) (m := 1) (news := [strv xn]) (reads_pt hB 0 rfl (off := 0) (fun j u hu => by rw [Nat.zero_add]; simpa [strv] using hu)) rfl (by decide) (by simp [strv, Value.oneCell']) (by have := Hql.out; omega) (by have := Hql.out; omega) ?_; intro aa ca w5 hA)
        refine hK.out _ _ (atVm hA (by repeat (first | exact List.Mem.head _ | refine List.Mem.tail _ ?_)) (by simp [go_sem]) rfl) (fun hS => ?_)
        clear hK K
        try simp only [Act.put, sb, s0, sz]
        refine takeW 6 ⟨some 8, .assign (.tmp 21), 23, "fold.go:124", #[⟨5, .data⟩, ⟨5, .chain⟩, ⟨0, .phase⟩, ⟨1, .phase⟩, ⟨2, .phase⟩, ⟨3, .phase⟩, ⟨4, .phase⟩, ⟨5, .phase⟩], none⟩ ?_ (.inl ⟨by rfl, ?_⟩) hS ?_
        rotate_left
        · (intro w hSw; (try dsimp only at hSw); go_simp; (try with_reducible rfl))
        try simp only [Act.put, sb, s0, sz]
        refine wpAnyH_done (by kernel_rfl) ?_ _
      all_goals
        replace hE := hA.erase 1
        clear hA hB hS
        simp only [List.eraseIdx_cons_succ, List.eraseIdx_cons_zero] at hE
        obtain ⟨g, rfl, hca, _⟩ := hE.rowIs 0 rfl (by omega)
        have Hca := SL.hid hca
        clear hca
        go_wp2_with (first | go_skip)
        refine wp_region_held_drew (S := (fun w' => ((Instr.loadAt 4 (.pointer (some ⟨b7, 1, none⟩))).run Tryd.prog w' = .ok (.bool xt.dir) w') ∧ ((Instr.loadAt 9 (.pointer (some ⟨b7, 2, none⟩))).run Tryd.prog w' = .ok (.string ⟨xt.data.toArray⟩) w'))) (by kernel_rfl) ⟨(atVm hE.drew (by repeat (first | exact List.Mem.head _ | refine List.Mem.tail _ ?_)) (by simp [go_sem]) rfl), (atVm hE.drew (by repeat (first | exact List.Mem.head _ | refine List.Mem.tail _ ?_)) (by simp [go_sem]) rfl)⟩ (fun hS => ?_)
        refine takeW 1 ⟨some 23, .move (.tmp 8), 23, "fold.go:125", #[], none⟩ ?_ (.inl ⟨by rfl, ?_⟩) hS ?_
        rotate_left
        · (intro w hSw; (try dsimp only at hSw); go_simp; (try with_reducible rfl))
        try simp only [Act.put, sb, s0, sz]
        refine takeW 3 ⟨some 25, .fieldAddr 51 (.tmp 7) 1, 0, "fold.go:125", #[], none⟩ ?_ (.inl ⟨by rfl, ?_⟩) hS ?_
        rotate_left
        · (intro w hSw; (try dsimp only at hSw); go_simp; (try with_reducible rfl))
        try simp only [Act.put, sb, s0, sz]
        refine takeW 4 ⟨some 26, .fieldAddr 28 (.tmp 25) 0, 0, "fold.go:125", #[⟨3, .data⟩], none⟩ ?_ (.inl ⟨by rfl, ?_⟩) hS ?_
        rotate_left
        · (intro w hSw; (try dsimp only at hSw); go_simp; (try with_reducible rfl))
        try simp only [Act.put, sb, s0, sz]
        refine takeW 5 ⟨some 27, .load 4 (.tmp 26), 4, "fold.go:125", #[⟨4, .data⟩], none⟩ ?_ (.inl ⟨by rfl, ?_⟩) hS ?_
        rotate_left
        · (intro w hSw; (try dsimp only at hSw); go_simp; (try with_reducible rfl))
        try simp only [Act.put, sb, s0, sz]
        refine takeW 6 ⟨some 28, .fieldAddr 51 (.tmp 7) 1, 0, "fold.go:125", #[], none⟩ ?_ (.inl ⟨by rfl, ?_⟩) hS ?_
        rotate_left
        · (intro w hSw; (try dsimp only at hSw); go_simp; (try with_reducible rfl))
        try simp only [Act.put, sb, s0, sz]
        refine takeW 7 ⟨some 29, .fieldAddr 28 (.tmp 28) 1, 0, "fold.go:125", #[⟨6, .data⟩], none⟩ ?_ (.inl ⟨by rfl, ?_⟩) hS ?_
        rotate_left
        · (intro w hSw; (try dsimp only at hSw); go_simp; (try with_reducible rfl))
        try simp only [Act.put, sb, s0, sz]
        refine takeW 8 ⟨some 30, .load 9 (.tmp 29), 9, "fold.go:125", #[⟨7, .data⟩], none⟩ ?_ (.inl ⟨by rfl, ?_⟩) hS ?_
        rotate_left
        · (intro w hSw; (try dsimp only at hSw); go_simp; (try with_reducible rfl))
        try simp only [Act.put, sb, s0, sz]
        refine wpAnyH_ready (rs := [0, 2]) (by kernel_rfl) (by simp) ?_
        refine (AllReadyH.cons (o := { dst := some 22, op := Go.Op.load 22 (Go.Operand.tmp 2), type := 22, pos := "fold.go:125", after := #[], guard := none }) rfl (fun K hK => ?_) (AllReadyH.cons (o := { dst := some 24, op := Go.Op.call { callee := Go.Callee.value (Go.Operand.func 33), args := #[Go.Operand.tmp 23], argTypes := #[23] }, type := 9, pos := "fold.go:125", after := #[{ on := 1, ground := Go.Ground.data }], guard := none }) rfl (fun K hK => ?_) AllReadyH.nil))
        focus
          (first | refine step_load1 hB 3 rfl (by rfl) (by rfl) (by rfl) (by simp [go_sem]) rfl ?_ | refine step_load1 hJ 2 rfl (by rfl) (by rfl) (by rfl) (by simp [go_sem]) rfl ?_ | refine step_load1 hE.drew 2 rfl (by rfl) (by rfl) (by rfl) (by simp [go_sem]) rfl ?_)
          refine hK.out _ _ (by first | exact ⟨(atVm hB (by repeat (first | exact List.Mem.head _ | refine List.Mem.tail _ ?_)) (by simp [go_sem]) rfl), (atVm hB (by repeat (first | exact List.Mem.head _ | refine List.Mem.tail _ ?_)) (by simp [go_sem]) rfl)⟩ | exact ⟨(atVm hJ (by repeat (first | exact List.Mem.head _ | refine List.Mem.tail _ ?_)) (by simp [go_sem]) rfl), (atVm hJ (by repeat (first | exact List.Mem.head _ | refine List.Mem.tail _ ?_)) (by simp [go_sem]) rfl)⟩ | exact ⟨(atVm hE.drew (by repeat (first | exact List.Mem.head _ | refine List.Mem.tail _ ?_)) (by simp [go_sem]) rfl), (atVm hE.drew (by repeat (first | exact List.Mem.head _ | refine List.Mem.tail _ ?_)) (by simp [go_sem]) rfl)⟩) (fun hS => ?_)
          clear hK K
          try simp only [Act.put, sb, s0, sz]
          refine wpAnyH_ready (rs := [2]) (by kernel_rfl) (by simp) ?_
          refine (AllReadyH.cons (o := { dst := some 24, op := Go.Op.call { callee := Go.Callee.value (Go.Operand.func 33), args := #[Go.Operand.tmp 23], argTypes := #[23] }, type := 9, pos := "fold.go:125", after := #[{ on := 1, ground := Go.Ground.data }], guard := none }) rfl (fun K hK => ?_) AllReadyH.nil)
          (go_simp; refine (HJ.out _ _ Hca.out _ _ hE.drew (fun w h => reads_row h 0 rfl)).mono ?_; rintro e w6 ⟨v, rfl, rfl, hJ⟩)
          refine hK.out _ _ ⟨(atVm hJ (by repeat (first | exact List.Mem.head _ | refine List.Mem.tail _ ?_)) (by simp [go_sem]) rfl), (atVm hJ (by repeat (first | exact List.Mem.head _ | refine List.Mem.tail _ ?_)) (by simp [go_sem]) rfl)⟩ (fun hS => ?_)
          clear hK K
          try simp only [Act.put, sb, s0, sz]
          refine takeW 9 ⟨some 31, .build 41 #[(0, .tmp 24), (1, .tmp 27), (2, .tmp 30)], 41, "fold.go:125", #[⟨2, .data⟩, ⟨5, .data⟩, ⟨8, .data⟩], none⟩ ?_ (.inl ⟨by rfl, ?_⟩) hS ?_
          rotate_left
          · (intro w hSw; (try dsimp only at hSw); go_simp; (try with_reducible rfl))
          try simp only [Act.put, sb, s0, sz]
          refine wpAnyH_ready (rs := [10]) (by kernel_rfl) (by simp) ?_
          refine (AllReadyH.cons (o := { dst := some 32, op := Go.Op.buildSlice 22 1 #[(0, Go.Operand.tmp 31)], type := 22, pos := "fold.go:125", after := #[{ on := 9, ground := Go.Ground.data }], guard := none }) rfl (fun K hK => ?_) AllReadyH.nil)
          (refine step_build1 hJ rfl (by rfl) (xs := enC ⟨jp, xt.dir, xt.data⟩) (by rfl) Tryd.underlying22 zs_en Tryd.sizeOf41 (by decide) (by decide) rfl ?_; intro b9 w7 hB)
          refine hK.out _ _ ⟨(atVm hB (by repeat (first | exact List.Mem.head _ | refine List.Mem.tail _ ?_)) (by simp [go_sem]) rfl), (atVm hB (by repeat (first | exact List.Mem.head _ | refine List.Mem.tail _ ?_)) (by simp [go_sem]) rfl)⟩ (fun hS => ?_)
          clear hK K
          try simp only [Act.put, sb, s0, sz]
          refine wpAnyH_ready (rs := [11]) (by kernel_rfl) (by simp) ?_
          refine (AllReadyH.cons (o := { dst := some 33, op := Go.Op.call { callee := Go.Callee.builtin Go.Builtin.append, args := #[Go.Operand.tmp 22, Go.Operand.tmp 32], argTypes := #[22, 22] }, type := 22, pos := "fold.go:125", after := #[{ on := 0, ground := Go.Ground.data }, { on := 10, ground := Go.Ground.data }, { on := 2, ground := Go.Ground.chain }], guard := none }) rfl (fun K hK => ?_) AllReadyH.nil)
          (refine step_appendG hB 5 rfl rfl (by rfl) (by rfl) (by rfl) Tryd.underlying22 info_en (by decide) (m := 1) (news := enC ⟨jp, xt.dir, xt.data⟩) (reads_pt hB 0 rfl (off := 0) (fun j u hu => by rw [Nat.zero_add, List.getElem?_toArray]; exact hu)) rfl (enC_one _) (by have := Hlen2.out; simp at this; omega) (by have := Hlen2.out; simp at this; omega) ?_; intro ao' c' w8 hC; simp only [List.set_cons_zero, List.set_cons_succ] at hC)
          refine hK.out _ _ ⟨(atVm hC (by repeat (first | exact List.Mem.head _ | refine List.Mem.tail _ ?_)) (by simp [go_sem]) rfl), (atVm hC (by repeat (first | exact List.Mem.head _ | refine List.Mem.tail _ ?_)) (by simp [go_sem]) rfl)⟩ (fun hS => ?_)
          clear hK K
          try simp only [Act.put, sb, s0, sz]
          refine wpAnyH_ready (rs := [12]) (by kernel_rfl) (by simp) ?_
          refine (AllReadyH.cons (o := { dst := none, op := Go.Op.store 22 (Go.Operand.tmp 2) (Go.Operand.tmp 33), type := 0, pos := "fold.go:125", after := #[{ on := 11, ground := Go.Ground.data }, { on := 11, ground := Go.Ground.chain }, { on := 0, ground := Go.Ground.phase }, { on := 1, ground := Go.Ground.phase }, { on := 2, ground := Go.Ground.phase }, { on := 3, ground := Go.Ground.phase }, { on := 4, ground := Go.Ground.phase }, { on := 5, ground := Go.Ground.phase }, { on := 6, ground := Go.Ground.phase }, { on := 7, ground := Go.Ground.phase }, { on := 8, ground := Go.Ground.phase }, { on := 9, ground := Go.Ground.phase }, { on := 10, ground := Go.Ground.phase }, { on := 11, ground := Go.Ground.phase }], guard := none }) rfl (fun K hK => ?_) AllReadyH.nil)
          (refine step_setC hC 3 rfl (by rfl) (by rfl) (by rfl) (v := .slice ao' (out.length + 1) c') (by rfl) (by first | (simp [go_sem]; done) | (simp [go_sem]; rfl)) rfl rfl (by simp) ?_; intro w9 hD; simp only [List.set_cons_zero, List.set_cons_succ] at hD)
          refine hK.out _ _ ⟨(atVm hD (by repeat (first | exact List.Mem.head _ | refine List.Mem.tail _ ?_)) (by simp [go_sem]) rfl), (atVm hD (by repeat (first | exact List.Mem.head _ | refine List.Mem.tail _ ?_)) (by simp [go_sem]) rfl)⟩ (fun hS => ?_)
          clear hK K
          try simp only [Act.put, sb, s0, sz]
          refine wpAnyH_done (by kernel_rfl) ?_ _
        rotate_right
        focus
          (go_simp; refine (HJ.out _ _ Hca.out _ _ hE.drew (fun w h => reads_row h 0 rfl)).mono ?_; rintro e w6 ⟨v, rfl, rfl, hJ⟩)
          refine hK.out _ _ ⟨(atVm hJ (by repeat (first | exact List.Mem.head _ | refine List.Mem.tail _ ?_)) (by simp [go_sem]) rfl), (atVm hJ (by repeat (first | exact List.Mem.head _ | refine List.Mem.tail _ ?_)) (by simp [go_sem]) rfl)⟩ (fun hS => ?_)
          clear hK K
          try simp only [Act.put, sb, s0, sz]
          refine takeW 9 ⟨some 31, .build 41 #[(0, .tmp 24), (1, .tmp 27), (2, .tmp 30)], 41, "fold.go:125", #[⟨2, .data⟩, ⟨5, .data⟩, ⟨8, .data⟩], none⟩ ?_ (.inl ⟨by rfl, ?_⟩) hS ?_
          rotate_left
          · (intro w hSw; (try dsimp only at hSw); go_simp; (try with_reducible rfl))
          try simp only [Act.put, sb, s0, sz]
          refine wpAnyH_ready (rs := [0, 10]) (by kernel_rfl) (by simp) ?_
          refine (AllReadyH.cons (o := { dst := some 22, op := Go.Op.load 22 (Go.Operand.tmp 2), type := 22, pos := "fold.go:125", after := #[], guard := none }) rfl (fun K hK => ?_) (AllReadyH.cons (o := { dst := some 32, op := Go.Op.buildSlice 22 1 #[(0, Go.Operand.tmp 31)], type := 22, pos := "fold.go:125", after := #[{ on := 9, ground := Go.Ground.data }], guard := none }) rfl (fun K hK => ?_) AllReadyH.nil))
          focus
            (first | refine step_load1 hB 3 rfl (by rfl) (by rfl) (by rfl) (by simp [go_sem]) rfl ?_ | refine step_load1 hJ 2 rfl (by rfl) (by rfl) (by rfl) (by simp [go_sem]) rfl ?_ | refine step_load1 hE.drew 2 rfl (by rfl) (by rfl) (by rfl) (by simp [go_sem]) rfl ?_)
            refine hK.out _ _ (by first | exact ⟨(atVm hB (by repeat (first | exact List.Mem.head _ | refine List.Mem.tail _ ?_)) (by simp [go_sem]) rfl), (atVm hB (by repeat (first | exact List.Mem.head _ | refine List.Mem.tail _ ?_)) (by simp [go_sem]) rfl)⟩ | exact ⟨(atVm hJ (by repeat (first | exact List.Mem.head _ | refine List.Mem.tail _ ?_)) (by simp [go_sem]) rfl), (atVm hJ (by repeat (first | exact List.Mem.head _ | refine List.Mem.tail _ ?_)) (by simp [go_sem]) rfl)⟩ | exact ⟨(atVm hE.drew (by repeat (first | exact List.Mem.head _ | refine List.Mem.tail _ ?_)) (by simp [go_sem]) rfl), (atVm hE.drew (by repeat (first | exact List.Mem.head _ | refine List.Mem.tail _ ?_)) (by simp [go_sem]) rfl)⟩) (fun hS => ?_)
            clear hK K
            try simp only [Act.put, sb, s0, sz]
            refine wpAnyH_ready (rs := [10]) (by kernel_rfl) (by simp) ?_
            refine (AllReadyH.cons (o := { dst := some 32, op := Go.Op.buildSlice 22 1 #[(0, Go.Operand.tmp 31)], type := 22, pos := "fold.go:125", after := #[{ on := 9, ground := Go.Ground.data }], guard := none }) rfl (fun K hK => ?_) AllReadyH.nil)
            (refine step_build1 hJ rfl (by rfl) (xs := enC ⟨jp, xt.dir, xt.data⟩) (by rfl) Tryd.underlying22 zs_en Tryd.sizeOf41 (by decide) (by decide) rfl ?_; intro b9 w7 hB)
            refine hK.out _ _ ⟨(atVm hB (by repeat (first | exact List.Mem.head _ | refine List.Mem.tail _ ?_)) (by simp [go_sem]) rfl), (atVm hB (by repeat (first | exact List.Mem.head _ | refine List.Mem.tail _ ?_)) (by simp [go_sem]) rfl)⟩ (fun hS => ?_)
            clear hK K
            try simp only [Act.put, sb, s0, sz]
            refine wpAnyH_ready (rs := [11]) (by kernel_rfl) (by simp) ?_
            refine (AllReadyH.cons (o := { dst := some 33, op := Go.Op.call { callee := Go.Callee.builtin Go.Builtin.append, args := #[Go.Operand.tmp 22, Go.Operand.tmp 32], argTypes := #[22, 22] }, type := 22, pos := "fold.go:125", after := #[{ on := 0, ground := Go.Ground.data }, { on := 10, ground := Go.Ground.data }, { on := 2, ground := Go.Ground.chain }], guard := none }) rfl (fun K hK => ?_) AllReadyH.nil)
            (refine step_appendG hB 5 rfl rfl (by rfl) (by rfl) (by rfl) Tryd.underlying22 info_en (by decide) (m := 1) (news := enC ⟨jp, xt.dir, xt.data⟩) (reads_pt hB 0 rfl (off := 0) (fun j u hu => by rw [Nat.zero_add, List.getElem?_toArray]; exact hu)) rfl (enC_one _) (by have := Hlen2.out; simp at this; omega) (by have := Hlen2.out; simp at this; omega) ?_; intro ao' c' w8 hC; simp only [List.set_cons_zero, List.set_cons_succ] at hC)
            refine hK.out _ _ ⟨(atVm hC (by repeat (first | exact List.Mem.head _ | refine List.Mem.tail _ ?_)) (by simp [go_sem]) rfl), (atVm hC (by repeat (first | exact List.Mem.head _ | refine List.Mem.tail _ ?_)) (by simp [go_sem]) rfl)⟩ (fun hS => ?_)
            clear hK K
            try simp only [Act.put, sb, s0, sz]
            refine wpAnyH_ready (rs := [12]) (by kernel_rfl) (by simp) ?_
            refine (AllReadyH.cons (o := { dst := none, op := Go.Op.store 22 (Go.Operand.tmp 2) (Go.Operand.tmp 33), type := 0, pos := "fold.go:125", after := #[{ on := 11, ground := Go.Ground.data }, { on := 11, ground := Go.Ground.chain }, { on := 0, ground := Go.Ground.phase }, { on := 1, ground := Go.Ground.phase }, { on := 2, ground := Go.Ground.phase }, { on := 3, ground := Go.Ground.phase }, { on := 4, ground := Go.Ground.phase }, { on := 5, ground := Go.Ground.phase }, { on := 6, ground := Go.Ground.phase }, { on := 7, ground := Go.Ground.phase }, { on := 8, ground := Go.Ground.phase }, { on := 9, ground := Go.Ground.phase }, { on := 10, ground := Go.Ground.phase }, { on := 11, ground := Go.Ground.phase }], guard := none }) rfl (fun K hK => ?_) AllReadyH.nil)
            (refine step_setC hC 3 rfl (by rfl) (by rfl) (by rfl) (v := .slice ao' (out.length + 1) c') (by rfl) (by first | (simp [go_sem]; done) | (simp [go_sem]; rfl)) rfl rfl (by simp) ?_; intro w9 hD; simp only [List.set_cons_zero, List.set_cons_succ] at hD)
            refine hK.out _ _ ⟨(atVm hD (by repeat (first | exact List.Mem.head _ | refine List.Mem.tail _ ?_)) (by simp [go_sem]) rfl), (atVm hD (by repeat (first | exact List.Mem.head _ | refine List.Mem.tail _ ?_)) (by simp [go_sem]) rfl)⟩ (fun hS => ?_)
            clear hK K
            try simp only [Act.put, sb, s0, sz]
            refine wpAnyH_done (by kernel_rfl) ?_ _
          rotate_right
          focus
            (refine step_build1 hJ rfl (by rfl) (xs := enC ⟨jp, xt.dir, xt.data⟩) (by rfl) Tryd.underlying22 zs_en Tryd.sizeOf41 (by decide) (by decide) rfl ?_; intro b9 w7 hB)
            refine hK.out _ _ ⟨(atVm hB (by repeat (first | exact List.Mem.head _ | refine List.Mem.tail _ ?_)) (by simp [go_sem]) rfl), (atVm hB (by repeat (first | exact List.Mem.head _ | refine List.Mem.tail _ ?_)) (by simp [go_sem]) rfl)⟩ (fun hS => ?_)
            clear hK K
            try simp only [Act.put, sb, s0, sz]
            refine wpAnyH_ready (rs := [0]) (by kernel_rfl) (by simp) ?_
            refine (AllReadyH.cons (o := { dst := some 22, op := Go.Op.load 22 (Go.Operand.tmp 2), type := 22, pos := "fold.go:125", after := #[], guard := none }) rfl (fun K hK => ?_) AllReadyH.nil)
            (first | refine step_load1 hB 3 rfl (by rfl) (by rfl) (by rfl) (by simp [go_sem]) rfl ?_ | refine step_load1 hJ 2 rfl (by rfl) (by rfl) (by rfl) (by simp [go_sem]) rfl ?_ | refine step_load1 hE.drew 2 rfl (by rfl) (by rfl) (by rfl) (by simp [go_sem]) rfl ?_)
            refine hK.out _ _ (by first | exact ⟨(atVm hB (by repeat (first | exact List.Mem.head _ | refine List.Mem.tail _ ?_)) (by simp [go_sem]) rfl), (atVm hB (by repeat (first | exact List.Mem.head _ | refine List.Mem.tail _ ?_)) (by simp [go_sem]) rfl)⟩ | exact ⟨(atVm hJ (by repeat (first | exact List.Mem.head _ | refine List.Mem.tail _ ?_)) (by simp [go_sem]) rfl), (atVm hJ (by repeat (first | exact List.Mem.head _ | refine List.Mem.tail _ ?_)) (by simp [go_sem]) rfl)⟩ | exact ⟨(atVm hE.drew (by repeat (first | exact List.Mem.head _ | refine List.Mem.tail _ ?_)) (by simp [go_sem]) rfl), (atVm hE.drew (by repeat (first | exact List.Mem.head _ | refine List.Mem.tail _ ?_)) (by simp [go_sem]) rfl)⟩) (fun hS => ?_)
            clear hK K
            try simp only [Act.put, sb, s0, sz]
            refine wpAnyH_ready (rs := [11]) (by kernel_rfl) (by simp) ?_
            refine (AllReadyH.cons (o := { dst := some 33, op := Go.Op.call { callee := Go.Callee.builtin Go.Builtin.append, args := #[Go.Operand.tmp 22, Go.Operand.tmp 32], argTypes := #[22, 22] }, type := 22, pos := "fold.go:125", after := #[{ on := 0, ground := Go.Ground.data }, { on := 10, ground := Go.Ground.data }, { on := 2, ground := Go.Ground.chain }], guard := none }) rfl (fun K hK => ?_) AllReadyH.nil)
            (refine step_appendG hB 5 rfl rfl (by rfl) (by rfl) (by rfl) Tryd.underlying22 info_en (by decide) (m := 1) (news := enC ⟨jp, xt.dir, xt.data⟩) (reads_pt hB 0 rfl (off := 0) (fun j u hu => by rw [Nat.zero_add, List.getElem?_toArray]; exact hu)) rfl (enC_one _) (by have := Hlen2.out; simp at this; omega) (by have := Hlen2.out; simp at this; omega) ?_; intro ao' c' w8 hC; simp only [List.set_cons_zero, List.set_cons_succ] at hC)
            refine hK.out _ _ ⟨(atVm hC (by repeat (first | exact List.Mem.head _ | refine List.Mem.tail _ ?_)) (by simp [go_sem]) rfl), (atVm hC (by repeat (first | exact List.Mem.head _ | refine List.Mem.tail _ ?_)) (by simp [go_sem]) rfl)⟩ (fun hS => ?_)
            clear hK K
            try simp only [Act.put, sb, s0, sz]
            refine wpAnyH_ready (rs := [12]) (by kernel_rfl) (by simp) ?_
            refine (AllReadyH.cons (o := { dst := none, op := Go.Op.store 22 (Go.Operand.tmp 2) (Go.Operand.tmp 33), type := 0, pos := "fold.go:125", after := #[{ on := 11, ground := Go.Ground.data }, { on := 11, ground := Go.Ground.chain }, { on := 0, ground := Go.Ground.phase }, { on := 1, ground := Go.Ground.phase }, { on := 2, ground := Go.Ground.phase }, { on := 3, ground := Go.Ground.phase }, { on := 4, ground := Go.Ground.phase }, { on := 5, ground := Go.Ground.phase }, { on := 6, ground := Go.Ground.phase }, { on := 7, ground := Go.Ground.phase }, { on := 8, ground := Go.Ground.phase }, { on := 9, ground := Go.Ground.phase }, { on := 10, ground := Go.Ground.phase }, { on := 11, ground := Go.Ground.phase }], guard := none }) rfl (fun K hK => ?_) AllReadyH.nil)
            (refine step_setC hC 3 rfl (by rfl) (by rfl) (by rfl) (v := .slice ao' (out.length + 1) c') (by rfl) (by first | (simp [go_sem]; done) | (simp [go_sem]; rfl)) rfl rfl (by simp) ?_; intro w9 hD; simp only [List.set_cons_zero, List.set_cons_succ] at hD)
            refine hK.out _ _ ⟨(atVm hD (by repeat (first | exact List.Mem.head _ | refine List.Mem.tail _ ?_)) (by simp [go_sem]) rfl), (atVm hD (by repeat (first | exact List.Mem.head _ | refine List.Mem.tail _ ?_)) (by simp [go_sem]) rfl)⟩ (fun hS => ?_)
            clear hK K
            try simp only [Act.put, sb, s0, sz]
            refine wpAnyH_done (by kernel_rfl) ?_ _
        all_goals
          clear hC hB hJ hE hS
          go_wp2_with (first
            | go_skip
            | ((with_reducible (show Go.wpList _ _ _ (Go.Oper.mk _ (.load 28 _) _ _ _ _ :: _) _ _)); refine wpl_loadA hD 2 rfl rfl rfl (off := 1) rfl Tryd.isAgg28 Tryd.sizeOf28 [.bool xt.dir, .string ⟨xt.data.toArray⟩, kvp] rfl (fun j hj => by match j, hj with | 0, _ => rfl | 1, _ => rfl | 2, _ => rfl) ?_)
            | ((with_reducible (show Go.wpList _ _ _ (Go.Oper.mk _ (.load _ (.tmp 3)) _ _ _ _ :: _) _ _)); refine wpl_load1 hD 4 rfl rfl rfl rfl (by simp [go_sem]) rfl ?_))
          have H := HI.out (some ⟨g, 0, none⟩) ca (row 9 1 (.slice (some ⟨g, 0, none⟩) (q.length + 1) ca) (q.length + 1) (q.map strv ++ [strv xn]) :: lb) (out ++ [entOf q (xn, xt)]) ao' c' _ (hkid.suf (List.suffix_cons _ _)) Hca.out (fun w h => reads_row h 0 rfl) (by have := Hlen2.out; simp at this ⊢; omega) (by have h := ((((hD.erase 0).erase 1).front 3 rfl).front 3 rfl).front 3 rfl; have e1 : (out ++ [entOf q (xn, xt)]).length = out.length + 1 := (by simp); have e2 : (out ++ [entOf q (xn, xt)]).flatMap enC = out.flatMap enC ++ enC ⟨jp, xt.dir, xt.data⟩ := (by rw [He.out]; simp); simp only [rowEn, e1, e2]; exact h)
          refine H.mono ?_
          clear H hD
          rintro e w10 ⟨v, rfl, ao2, co2, hF⟩
          go_wp2
          go_roundw
          case rel => exact ⟨k + 1, ao2, co2, _, hlt, by simp, Hout.out, Ent.dropLast hF⟩
          case measure => simp [intOf]; omega
    · obtain rfl : k = ks.length := by omega
      rw [List.take_length] at hout
      have Ho := SL.hid hout
      clear hout
      go_wp2
      refine bodyPost_ret (results_none rfl _ _ _) rfl ?_
      refine ⟨_, rfl, ao, co, ?_⟩
      rw [← Ho.out]
      exact hE
end Go.Proofs.YtjmllpgmbaoebaaDoor
namespace Go.Proofs.YtjmllpgmbaoebaaDoor
open Go.RowKit Go.SL

theorem walk_all (bo bw : Nat) : ∀ d, WalkC bo bw d
  | 0 => by
    intro t hw kv q an cn lb pre ao co w hkv hcn hqd hq6 hn hbig hE
    have hz : t.kids = [] := by cases t; exact hw.1
    refine (walk_none hz hkv hE).mono ?_
    rintro e w' ⟨v, rfl, h⟩
    refine ⟨v, rfl, ao, co, ?_⟩
    rw [entT_file hz, List.append_nil]
    exact h
  | d + 1 => walk_step (walk_all bo bw d)
set_option maxRecDepth 100000 in
set_option maxHeartbeats 2000000 in
attribute [-go_sem] Instr.loadAt in
theorem Entries_any {d : Nat} {t : Tr} (hw : Tr.Wf d t) (hd : d ≤ 100) {kv : Value} {l : List HProp} (hkv : KidsAt l kv t.kids) (hb : (entT d [] t).length ≤ 1000000) {w : World} (hE : Ent l w) :
    Calls Tryd.prog 13 #[nodeV t kv] w (Ret fun v w' => ∃ ao c m, v = .slice ao (entT d [] t).length c ∧ Ent (rowEn ao c (entT d [] t) :: (m ++ l)) w') := by
  have HW := SL.hid (fun (bo bw : Nat) (lb : List HProp) (w : World) (hkv : KidsAt lb kv t.kids) (hE : Ent (boO bo none 0 0 :: boW bo bw :: rowEn none 0 [] :: lb) w) =>
    walk_all bo bw d t hw kv [] none 0 lb [] none 0 w hkv (Nat.zero_le _) (by simpa using hd) (by simp) (fun _ _ => reads_nil 0 0 rfl _) (by simpa using hb) hE)
  simp only [List.length_nil, List.nil_append, nodeV] at HW
  unfold nodeV
  unfold boO boW at HW
  clear hb hw
  generalize entT d [] t = es at *
  go_enter Tryd.func13, Tryd.ntmps13
  go_wp2_with (first
    | go_skip
    | ((with_reducible (show Go.wpList _ _ _ (Go.Oper.mk _ (.box _ _) _ _ _ _ :: _) _ _)); refine wpl_box hE rfl rfl rfl ?_; clear hE; intro b1 w hE; simp only [Act.eval, Act.put, List.setIfInBounds_toArray, List.set_cons_zero, List.set_cons_succ, getD_lit, List.getD_cons_succ, List.getD_cons_zero, Value.cells] at hE)
    | ((with_reducible (show Go.wpList _ _ _ (Go.Oper.mk _ (.alloc 22) _ _ _ _ :: _) _ _)); refine wpl_alloc hE rfl rfl (by simp [go_sem]; rfl) ?_; clear hE; intro b3 w hE; simp only [Act.eval, Act.put, List.setIfInBounds_toArray, List.set_cons_zero, List.set_cons_succ, getD_lit, List.getD_cons_succ, List.getD_cons_zero, Value.cells] at hE)
    | ((with_reducible (show Go.wpList _ _ _ (Go.Oper.mk _ (.alloc 66) _ _ _ _ :: _) _ _)); refine wpl_alloc hE rfl rfl (by simp [go_sem]; rfl) ?_; clear hE; intro b4 w hE; simp only [Act.eval, Act.put, List.setIfInBounds_toArray, List.set_cons_zero, List.set_cons_succ, getD_lit, List.getD_cons_succ, List.getD_cons_zero, Value.cells] at hE)
    | ((with_reducible (show Go.wpList _ _ _ (Go.Oper.mk _ (.store _ _ _) _ _ _ _ :: _) _ _)); refine wpl_st1 hE 0 rfl rfl rfl rfl rfl (by first | (simp [go_sem]; done) | (simp [go_sem]; rfl)) rfl rfl (by simp) ?_; clear hE; intro w hE; simp only [Act.eval, Act.put, List.setIfInBounds_toArray, List.set_cons_zero, List.set_cons_succ, getD_lit, List.getD_cons_succ, List.getD_cons_zero, Value.cells] at hE)
    | ((with_reducible (show Go.wpList _ _ _ (Go.Oper.mk _ (.load 28 _) _ _ _ _ :: _) _ _)); refine wpl_loadA hE 2 rfl rfl rfl (off := 0) rfl Tryd.isAgg28 Tryd.sizeOf28 [.bool t.dir, .string ⟨t.data.toArray⟩, kv] rfl (fun j hj => by match j, hj with | 0, _ => rfl | 1, _ => rfl | 2, _ => rfl) ?_)
    | ((with_reducible (show Go.wpList _ _ _ (Go.Oper.mk _ (.load 66 _) _ _ _ _ :: _) _ _)); refine wpl_load1 hE 0 rfl rfl rfl rfl (by simp [go_sem]) rfl ?_))
  replace hE := ((hE.nil 41 3).front 1 rfl).front 2 rfl
  simp only [List.eraseIdx_cons_succ, List.eraseIdx_cons_zero] at hE
  refine (HW.out b3 b4 (pt b1 (.cells #[.bool t.dir, .string ⟨t.data.toArray⟩, kv] 28) :: l) _ (hkv.suf (List.suffix_cons _ _)) hE).mono ?_
  clear hE
  rintro e w9 ⟨v, rfl, ao, co, hE⟩
  go_wp2_with (first
    | go_skip
    | ((with_reducible (show Go.wpList _ _ _ (Go.Oper.mk _ (.load _ (.tmp 3)) _ _ _ _ :: _) _ _)); refine wpl_load1 hE 0 rfl rfl rfl rfl (by simp [go_sem]) rfl ?_))
  go_ret
  exact ⟨_, rfl, ao, co, [_, _, _], rfl, hE.front 2 rfl⟩
end Go.Proofs.YtjmllpgmbaoebaaDoor
namespace Go.Proofs.YtjmllpgmbaoebaaDoor
open Go.RowKit Go.SL

theorem eqEn (x : En) (w : World) : (Op.equalIn 10000 41 (.agg #[.string ⟨x.path.toArray⟩, .bool x.dir, .string ⟨x.data.toArray⟩]) (.agg #[.string ⟨x.path.toArray⟩, .bool x.dir, .string ⟨x.data.toArray⟩])).run Tryd.prog w = .ok true w := by
  have h := run_equalIn_agg (P := Tryd.prog) (w := w) 9999 41 #[.string ⟨x.path.toArray⟩, .bool x.dir, .string ⟨x.data.toArray⟩] #[.string ⟨x.path.toArray⟩, .bool x.dir, .string ⟨x.data.toArray⟩] (by kernel_rfl) (by kernel_rfl)
  refine h.trans ?_
  simp [go_sem]
/-- an entry of a row, read whole and in part -/
theorem load_en {b off c : Nat} {xs : List En} {w : World} (hr : reads (.slice (some ⟨b, off, none⟩) xs.length c) xs.length (xs.flatMap enC) w) {k : Nat} (hk : k < xs.length) :
    (Instr.loadAt 41 (.pointer (some ⟨b, off + k * 3, none⟩))).run Tryd.prog w = .ok (.agg #[.string ⟨xs[k].path.toArray⟩, .bool xs[k].dir, .string ⟨xs[k].data.toArray⟩]) w ∧
    (Instr.loadAt 9 (.pointer (some ⟨b, off + k * 3, none⟩))).run Tryd.prog w = .ok (.string ⟨xs[k].path.toArray⟩) w ∧
    (Instr.loadAt 4 (.pointer (some ⟨b, off + k * 3 + 1, none⟩))).run Tryd.prog w = .ok (.bool xs[k].dir) w ∧
    (Instr.loadAt 9 (.pointer (some ⟨b, off + k * 3 + 2, none⟩))).run Tryd.prog w = .ok (.string ⟨xs[k].data.toArray⟩) w := by
  obtain ⟨b', off', e, h⟩ := en_at hr hk
  cases e
  exact ⟨atCells Tryd.isAgg41 Tryd.sizeOf41 (enC xs[k]) rfl (fun j v hv => by rw [Addr.add_lit]; exact h j v hv), atCell (h 0 _ rfl) (by simp [go_sem]), atCell (h 1 _ rfl) (by simp [go_sem]), atCell (h 2 _ rfl) (by simp [go_sem])⟩
def GrRel (es : List En) (l : List HProp) (i : Value) (wr : World) : Prop :=
  ∃ k : Nat, k ≤ es.length ∧ i = .int .i64 k ∧ (∀ x ∈ es.take k, x.path.length ≤ 200 ∧ x.data.length ≤ 9000) ∧ Ent l wr
/-- is a row of entries too great for the law? -/
def great (es : List En) : Bool := decide (100 < es.length) || es.any fun x => decide (200 < x.path.length) || decide (9000 < x.data.length)
theorem great_not {es : List En} : great es = false ↔ es.length ≤ 100 ∧ ∀ x ∈ es, x.path.length ≤ 200 ∧ x.data.length ≤ 9000 := by
  simp only [great, Bool.or_eq_false_iff, decide_eq_false_iff_not, List.any_eq_false, Nat.not_lt, Bool.not_eq_true]
def GrPost (es : List En) (l : List HProp) (v : Value) (w' : World) : Prop := v = .bool (great es) ∧ Ent l w'
theorem GrPost.mk {es : List En} {l : List HProp} {w' : World} (b : Bool) (h : Ent l w') (h2 : great es = b) : GrPost es l (.bool b) w' := ⟨by rw [h2], h⟩
set_option maxRecDepth 100000 in
set_option maxHeartbeats 2000000 in
attribute [-go_sem] Instr.loadAt in
theorem Great_any {es : List En} {ao : Option Addr} {c : Nat} {l : List HProp} {w : World} (hk : Knows l (reads (.slice ao es.length c) es.length (es.flatMap enC))) (hE : Ent l w) :
    Calls Tryd.prog 8 #[.slice ao es.length c] w (Ret (GrPost es l)) := by
  cases h100 : decide ((100 : Int) < (es.length : Int)) with
  | true =>
    go_enter Tryd.func8, Tryd.ntmps8
    go_wp2
    refine bodyPost_ret (results_tmp rfl _ _ _) rfl ?_
    exact ⟨_, rfl, .mk true hE (by have := of_decide_eq_true h100; rw [great, decide_eq_true (by omega)]; rfl)⟩
  | false =>
    have hle : es.length ≤ 100 := by have := of_decide_eq_false h100; omega
    have Hle := SL.hid hle
    go_enter Tryd.func8, Tryd.ntmps8
    go_wp2
    clear h100
    go_loopw [3] (fun i wr => GrRel es l i wr) (fun i _ => es.length - (intOf i).toNat)
    case atStart => exact ⟨0, Nat.zero_le _, rfl, by simp, hE⟩
    case round =>
      clear hE
      obtain ⟨k, hkn, rfl, hin, hE⟩ := hrel
      have Hin := SL.hid hin
      clear hin
      by_cases hlt : k < es.length
      · obtain ⟨b, off, rfl, hz⟩ := en_at (hk _ hE) hlt
        clear hz
        have htk := SL.hid (List.take_succ_eq_append_getElem hlt)
        obtain ⟨hl0, hl1, hl2, hl3⟩ := load_en (hk _ hE) hlt
        clear hl0 hl2
        have Hmem := SL.hid (List.getElem_mem hlt)
        generalize es[k] = x at *
        obtain ⟨xp, xd, xb⟩ := x
        cases hp : decide ((200 : Int) < (xp.length : Int)) with
        | true =>
          go_wp2
          refine bodyPost_ret (results_tmp rfl _ _ _) rfl ?_
          exact ⟨_, rfl, .mk true hE (eq_true_of_ne_false fun h => by have := (great_not.1 h).2 _ Hmem.out; have := of_decide_eq_true hp; simp only at *; omega)⟩
        | false =>
          cases hd : decide ((9000 : Int) < (xb.length : Int)) with
          | true =>
            go_wp2
            refine bodyPost_ret (results_tmp rfl _ _ _) rfl ?_
            exact ⟨_, rfl, .mk true hE (eq_true_of_ne_false fun h => by have := (great_not.1 h).2 _ Hmem.out; have := of_decide_eq_true hd; simp only at *; omega)⟩
          | false =>
            go_wp2
            go_roundw
            case rel =>
              refine ⟨k + 1, hlt, by simp, ?_, hE⟩
              rw [htk.out]
              intro y hy
              rcases List.mem_append.1 hy with h | h
              · exact Hin.out y h
              · rw [List.mem_singleton.1 h]
                have := of_decide_eq_false hp
                have := of_decide_eq_false hd
                exact ⟨by simp only; omega, by simp only; omega⟩
            case measure => simp [intOf]; omega
      · obtain rfl : k = es.length := by omega
        go_wp2
        refine bodyPost_ret (results_tmp rfl _ _ _) rfl ?_
        exact ⟨_, rfl, .mk false hE (great_not.2 ⟨Hle.out, by have := Hin.out; rwa [List.take_length] at this⟩)⟩
set_option maxRecDepth 100000 in
set_option maxHeartbeats 2000000 in
attribute [-go_sem] Instr.loadAt Go.run_equalIn_agg in
theorem Row_same {es : List En} (hn : es.length ≤ 1000000) {ao bo : Option Addr} {c d : Nat} {l : List HProp} {w : World} (hk : Knows l (reads (.slice ao es.length c) es.length (es.flatMap enC))) (hk2 : Knows l (reads (.slice bo es.length d) es.length (es.flatMap enC))) (hE : Ent l w) :
    Calls Tryd.prog 12 #[.slice ao es.length c, .slice bo es.length d] w (Ret fun v w' => v = .bool true ∧ Ent l w') := by
  go_enter Tryd.func12, Tryd.ntmps12
  go_wp2
  go_loopw [5] (fun i wr => CntRel es.length l i wr) (fun i _ => es.length - (intOf i).toNat)
  case atStart => exact ⟨0, Nat.zero_le _, rfl, hE⟩
  case round =>
    clear hE
    obtain ⟨k, hkl, rfl, hE⟩ := hrel
    by_cases hlt : k < es.length
    · obtain ⟨b1, o1, rfl, hz⟩ := en_at (hk _ hE) hlt
      obtain ⟨b2, o2, rfl, hz2⟩ := en_at (hk2 _ hE) hlt
      clear hz hz2
      have f1 := SL.hid (show ∀ w, Ent l w → _ from fun w h => (load_en (hk w h) hlt).1)
      have f2 := SL.hid (show ∀ w, Ent l w → _ from fun w h => (load_en (hk2 w h) hlt).1)
      have hcm := fun w => eqEn es[k] w
      generalize es[k] = x at f1 f2 hcm
      obtain ⟨x1, x2, x3⟩ := x
      go_wp2
      refine wp_region_held_drew (S := (fun w' => ((Instr.loadAt 41 (.pointer (some ⟨b1, o1 + k * 3, none⟩))).run Tryd.prog w' = .ok (.agg #[.string ⟨x1.toArray⟩, .bool x2, .string ⟨x3.toArray⟩]) w') ∧ ((Instr.loadAt 41 (.pointer (some ⟨b2, o2 + k * 3, none⟩))).run Tryd.prog w' = .ok (.agg #[.string ⟨x1.toArray⟩, .bool x2, .string ⟨x3.toArray⟩]) w'))) (by kernel_rfl) ⟨(f1.out _ hE.drew), (f2.out _ hE.drew)⟩ (fun hS => ?_)
      refine takeW 0 ⟨some 17, .move (.tmp 0), 22, "law.go:40", #[], none⟩ ?_ (.inl ⟨by rfl, ?_⟩) hS ?_
      rotate_left
      · (intro w hSw; (try dsimp only at hSw); go_simp; (try with_reducible rfl))
      try simp only [Act.put, sb, s0, sz]
      refine takeW 1 ⟨some 18, .move (.tmp 5), 3, "law.go:40", #[], none⟩ ?_ (.inl ⟨by rfl, ?_⟩) hS ?_
      rotate_left
      · (intro w hSw; (try dsimp only at hSw); go_simp; (try with_reducible rfl))
      try simp only [Act.put, sb, s0, sz]
      refine takeW 2 ⟨some 19, .indexAddr 22 (.tmp 17) (.tmp 18), 0, "law.go:40", #[⟨0, .data⟩, ⟨1, .data⟩], none⟩ ?_ (.inl ⟨by rfl, ?_⟩) hS ?_
      rotate_left
      · (intro w hSw; (try dsimp only at hSw); go_simp; (try with_reducible rfl))
      try simp only [Act.put, sb, s0, sz]
      refine takeW 3 ⟨some 20, .load 41 (.tmp 19), 41, "law.go:40", #[⟨2, .data⟩], none⟩ ?_ (.inl ⟨by rfl, ?_⟩) hS ?_
      rotate_left
      · (intro w hSw; (try dsimp only at hSw); go_simp; (try with_reducible rfl))
      try simp only [Act.put, sb, s0, sz]
      refine takeW 4 ⟨some 21, .move (.tmp 1), 22, "law.go:40", #[], none⟩ ?_ (.inl ⟨by rfl, ?_⟩) hS ?_
      rotate_left
      · (intro w hSw; (try dsimp only at hSw); go_simp; (try with_reducible rfl))
      try simp only [Act.put, sb, s0, sz]
      refine takeW 5 ⟨some 22, .move (.tmp 5), 3, "law.go:40", #[], none⟩ ?_ (.inl ⟨by rfl, ?_⟩) hS ?_
      rotate_left
      · (intro w hSw; (try dsimp only at hSw); go_simp; (try with_reducible rfl))
      try simp only [Act.put, sb, s0, sz]
      refine takeW 6 ⟨some 23, .indexAddr 22 (.tmp 21) (.tmp 22), 0, "law.go:40", #[⟨4, .data⟩, ⟨5, .data⟩], none⟩ ?_ (.inl ⟨by rfl, ?_⟩) hS ?_
      rotate_left
      · (intro w hSw; (try dsimp only at hSw); go_simp; (try with_reducible rfl))
      try simp only [Act.put, sb, s0, sz]
      refine takeW 7 ⟨some 24, .load 41 (.tmp 23), 41, "law.go:40", #[⟨6, .data⟩], none⟩ ?_ (.inl ⟨by rfl, ?_⟩) hS ?_
      rotate_left
      · (intro w hSw; (try dsimp only at hSw); go_simp; (try with_reducible rfl))
      try simp only [Act.put, sb, s0, sz]
      refine takeW 8 ⟨some 25, .binOp .neq 41 (.tmp 20) (.tmp 24) 41, 4, "law.go:40", #[⟨3, .data⟩, ⟨7, .data⟩], none⟩ ?_ (.inl ⟨by rfl, ?_⟩) hS ?_
      rotate_left
      · (intro w hSw; (try dsimp only at hSw); go_simp; (try with_reducible rfl))
      try simp only [Act.put, sb, s0, sz]
      refine wpAnyH_done (by kernel_rfl) ?_ _
      go_wp2
      go_roundw
      case rel => exact ⟨k + 1, hlt, by first | rfl | simp, hE.drew⟩
      case measure => simp [intOf] <;> omega
    · obtain rfl : k = es.length := by omega
      go_wp2
      go_ret
      exact ⟨_, rfl, rfl, hE⟩
end Go.Proofs.YtjmllpgmbaoebaaDoor
namespace Go.Proofs.YtjmllpgmbaoebaaDoor
open Go.RowKit Go.SL

def atD (L : List En) (p : List UInt8) : Int := if L.findIdx (fun x => x.path == p) < L.length then ((L.findIdx (fun x => x.path == p) : Nat) : Int) else -1
theorem atD_at {L : List En} {p : List UInt8} {k : Nat} (hk : k < L.length) (h : L[k].path = p) (hb : ∀ x ∈ L.take k, x.path ≠ p) : atD L p = (k : Int) := by
  have e : L.findIdx (fun x => x.path == p) = k := by
    refine (List.findIdx_eq hk).2 ⟨by simpa using h, fun j hj => ?_⟩
    have := hb (L[j]'(by omega)) (List.mem_iff_getElem.2 ⟨j, by rw [List.length_take]; omega, by simp⟩)
    simpa using this
  rw [atD, e, if_pos hk]
theorem atD_no {L : List En} {p : List UInt8} (hb : ∀ x ∈ L, x.path ≠ p) : atD L p = -1 := by
  have e : L.findIdx (fun x => x.path == p) = L.length := List.findIdx_eq_length.2 (fun x hx => by simpa using hb x hx)
  rw [atD, e, if_neg (by omega)]
theorem atD_has (L : List En) (p : List UInt8) : decide (0 ≤ atD L p) = hasD L p := by
  rw [Bool.eq_iff_iff, decide_eq_true_iff, hasD, List.any_eq_true, atD]
  by_cases h : L.findIdx (fun x => x.path == p) < L.length
  · rw [if_pos h]
    exact ⟨fun _ => ⟨_, List.getElem_mem h, List.findIdx_getElem (w := h)⟩, fun _ => by omega⟩
  · rw [if_neg h]
    refine ⟨fun h => by omega, fun ⟨x, hx, hp⟩ => absurd (List.findIdx_lt_length_of_exists ⟨x, hx, hp⟩) h⟩
def AtRelD (L : List En) (p : List UInt8) (l : List HProp) (i : Value) (wr : World) : Prop :=
  ∃ k : Nat, k ≤ L.length ∧ i = .int .i64 k ∧ (∀ x ∈ L.take k, x.path ≠ p) ∧ Ent l wr
set_option maxRecDepth 100000 in
set_option maxHeartbeats 2000000 in
attribute [-go_sem] Instr.loadAt in
theorem at_any {L : List En} (hL : L.length ≤ 1000000) (p : List UInt8) {ao : Option Addr} {c : Nat} {l : List HProp} {w : World} (hk : Knows l (reads (.slice ao L.length c) L.length (L.flatMap enC))) (hE : Ent l w) :
    Calls Tryd.prog 49 #[.agg #[.slice ao L.length c], .string ⟨p.toArray⟩] w (Ret fun v w' => v = .int .i64 (atD L p) ∧ Ent l w') := by
  go_enter Tryd.func49, Tryd.ntmps49
  go_wp2_with (first
    | go_skip
    | ((with_reducible (show Go.wpList _ _ _ (Go.Oper.mk _ (.box _ _) _ _ _ _ :: _) _ _)); refine wpl_box hE rfl rfl rfl ?_; clear hE; intro b2 w hE; simp only [Act.eval, Act.put, List.setIfInBounds_toArray, List.set_cons_zero, List.set_cons_succ, getD_lit, List.getD_cons_succ, List.getD_cons_zero, Value.cells] at hE))
  go_loopw [5] (fun i wr => AtRelD L p (pt b2 (.cells #[.slice ao L.length c] 33) :: l) i wr) (fun i _ => L.length - (intOf i).toNat)
  case atStart => exact ⟨0, Nat.zero_le _, rfl, by simp, hE⟩
  case round =>
    clear hE
    obtain ⟨k, hkn, rfl, hin, hE⟩ := hrel
    have Hin := SL.hid hin
    clear hin
    by_cases hlt : k < L.length
    · obtain ⟨b, off, rfl, hz⟩ := en_at (hk _ hE.tail) hlt
      clear hz
      have htk := SL.hid (List.take_succ_eq_append_getElem hlt)
      have f0 := SL.hid (show ∀ w, Ent l w → _ from fun w h => (load_en (hk w h) hlt).2.1)
      have HA := SL.hid (fun (h : L[k].path = p) => atD_at (p := p) hlt h Hin.out)
      generalize L[k] = x at *
      obtain ⟨xp, xd, xb⟩ := x
      simp only at f0 HA
      have hm := mkb xp p
      cases hp : (xp == p) with
      | true =>
        obtain rfl : xp = p := by simpa using hp
        rw [hp] at hm
        go_wp2_with (first
          | go_skip
          | ((with_reducible (show Go.wpList _ _ _ (Go.Oper.mk _ (.load 9 _) _ _ _ _ :: _) _ _)); refine wpl_run rfl (w' := wr) (v := .string ⟨xp.toArray⟩) (by simp only [execOp, Act.eval]; simp [f0.out _ hE.tail]) ?_)
          | ((with_reducible (show Go.wpList _ _ _ (Go.Oper.mk _ (.load _ _) _ _ _ _ :: _) _ _)); (first | (refine wpl_load1 hE 0 rfl rfl rfl rfl (by simp [go_sem]) rfl ?_) | (refine wpl_load1 hE 1 rfl rfl rfl rfl (by simp [go_sem]) rfl ?_) | (refine wpl_load1 hE 2 rfl rfl rfl rfl (by simp [go_sem]) rfl ?_) | (refine wpl_load1 hE 3 rfl rfl rfl rfl (by simp [go_sem]) rfl ?_) | (refine wpl_load1 hE 4 rfl rfl rfl rfl (by simp [go_sem]) rfl ?_) | (refine wpl_load1 hE 5 rfl rfl rfl rfl (by simp [go_sem]) rfl ?_) | (refine wpl_load1 hE 6 rfl rfl rfl rfl (by simp [go_sem]) rfl ?_) | (refine wpl_load1 hE 7 rfl rfl rfl rfl (by simp [go_sem]) rfl ?_))))
        refine bodyPost_ret (results_tmp rfl _ _ _) rfl ?_
        exact ⟨_, rfl, by rw [HA.out trivial]; rfl, hE.tail⟩
      | false =>
        rw [hp] at hm
        go_wp2_with (first
          | go_skip
          | ((with_reducible (show Go.wpList _ _ _ (Go.Oper.mk _ (.load 9 _) _ _ _ _ :: _) _ _)); refine wpl_run rfl (w' := wr) (v := .string ⟨xp.toArray⟩) (by simp only [execOp, Act.eval]; simp [f0.out _ hE.tail]) ?_)
          | ((with_reducible (show Go.wpList _ _ _ (Go.Oper.mk _ (.load _ _) _ _ _ _ :: _) _ _)); (first | (refine wpl_load1 hE 0 rfl rfl rfl rfl (by simp [go_sem]) rfl ?_) | (refine wpl_load1 hE 1 rfl rfl rfl rfl (by simp [go_sem]) rfl ?_) | (refine wpl_load1 hE 2 rfl rfl rfl rfl (by simp [go_sem]) rfl ?_) | (refine wpl_load1 hE 3 rfl rfl rfl rfl (by simp [go_sem]) rfl ?_) | (refine wpl_load1 hE 4 rfl rfl rfl rfl (by simp [go_sem]) rfl ?_) | (refine wpl_load1 hE 5 rfl rfl rfl rfl (by simp [go_sem]) rfl ?_) | (refine wpl_load1 hE 6 rfl rfl rfl rfl (by simp [go_sem]) rfl ?_) | (refine wpl_load1 hE 7 rfl rfl rfl rfl (by simp [go_sem]) rfl ?_))))
        go_roundw
        case rel =>
          refine ⟨k + 1, hlt, by simp, ?_, hE⟩
          rw [htk.out]
          intro y hy
          rcases List.mem_append.1 hy with h | h
          · exact Hin.out y h
          · rw [List.mem_singleton.1 h]; simpa using hp
        case measure => simp [intOf]; omega
    · obtain rfl : k = L.length := by omega
      have HN := SL.hid (atD_no (p := p) (by have := Hin.out; rwa [List.take_length] at this))
      go_wp2_with (first
        | go_skip
        | ((with_reducible (show Go.wpList _ _ _ (Go.Oper.mk _ (.load _ _) _ _ _ _ :: _) _ _)); (first | (refine wpl_load1 hE 0 rfl rfl rfl rfl (by simp [go_sem]) rfl ?_) | (refine wpl_load1 hE 1 rfl rfl rfl rfl (by simp [go_sem]) rfl ?_) | (refine wpl_load1 hE 2 rfl rfl rfl rfl (by simp [go_sem]) rfl ?_) | (refine wpl_load1 hE 3 rfl rfl rfl rfl (by simp [go_sem]) rfl ?_) | (refine wpl_load1 hE 4 rfl rfl rfl rfl (by simp [go_sem]) rfl ?_) | (refine wpl_load1 hE 5 rfl rfl rfl rfl (by simp [go_sem]) rfl ?_) | (refine wpl_load1 hE 6 rfl rfl rfl rfl (by simp [go_sem]) rfl ?_) | (refine wpl_load1 hE 7 rfl rfl rfl rfl (by simp [go_sem]) rfl ?_))))
      refine bodyPost_ret (results_tmp rfl _ _ _) rfl ?_
      exact ⟨_, rfl, by rw [HN.out]; rfl, hE.tail⟩
/-- a path's parent -/
theorem par_cut {p : List UInt8} {j : Nat} (hj : j < p.length) (h : p[j] = 47) (ha : ∀ c ∈ p.drop (j + 1), c ≠ 47) : parP p = p.take j := by
  have e : p = p.take j ++ 47 :: p.drop (j + 1) := by
    conv => lhs; rw [← List.take_append_drop j p, List.drop_eq_getElem_cons hj, h]
  conv => lhs; rw [e]
  exact parP_app ha
def PaRel (p : List UInt8) (l : List HProp) (i : Value) (wr : World) : Prop :=
  ∃ k : Nat, k ≤ p.length ∧ i = .int .i64 ((k : Int) - 1) ∧ (∀ x ∈ p.drop k, x ≠ 47) ∧ Ent l wr
set_option maxRecDepth 100000 in
set_option maxHeartbeats 2000000 in
theorem Parent_any {p : List UInt8} (hp : p.length ≤ 1000000) {l : List HProp} {w : World} (hE : Ent l w) :
    Calls Tryd.prog 51 #[.string ⟨p.toArray⟩] w (Ret fun v w' => v = .string ⟨(parP p).toArray⟩ ∧ Ent l w') := by
  have hw0 : wrap64 ((p.length : Int) - 1) = (p.length : Int) - 1 := by unfold wrap64; omega
  go_enter Tryd.func51, Tryd.ntmps51
  go_wp2
  go_loopw [3] (fun i wr => PaRel p l i wr) (fun i _ => (intOf i + 1).toNat)
  case atStart => exact ⟨p.length, Nat.le_refl _, by simp, by simp, hE⟩
  case round =>
    clear hE
    obtain ⟨k, hkn, rfl, hin, hE⟩ := hrel
    have Hin := SL.hid hin
    clear hin hw0
    by_cases h0 : k = 0
    · subst h0
      have HN := SL.hid (show parP p = [] from parP_free (by have := Hin.out; rwa [List.drop_zero] at this))
      go_wp2
      refine bodyPost_ret (results_tmp rfl _ _ _) rfl ?_
      exact ⟨_, rfl, by rw [HN.out]; rfl, hE⟩
    · obtain ⟨j, rfl⟩ : ∃ j, k = j + 1 := ⟨k - 1, by omega⟩
      have hi : j < p.length := by omega
      have e1 : (((j + 1 : Nat) : Int) - 1) = (j : Int) := by omega
      have hwj : wrap64 ((j : Int) - 1) = (j : Int) - 1 := by unfold wrap64; omega
      have hix := str_at p j (by rw [bytes_size]; exact hi)
      have hex : (⟨p.toArray⟩ : ByteArray).extract 0 j = ⟨(p.take j).toArray⟩ := by rw [extract_mk]; simp
      have hgd : p.getD j 0 = p[j] := by rw [List.getD_eq_getElem?_getD, List.getElem?_eq_getElem hi]; rfl
      have HC := SL.hid (fun (h : p[j] = 47) => par_cut (p := p) hi h Hin.out)
      have HD := SL.hid (List.drop_eq_getElem_cons hi)
      rw [e1]
      rw [hgd] at hix
      clear hgd e1
      generalize p[j] = b at *
      cases h47 : ((b.toNat : Int) == 47) with
      | true =>
        have e47 : b = 47 := by
          have : b.toNat = 47 := by
            have h : (b.toNat : Int) = 47 := by simpa using h47
            omega
          rw [← UInt8.toNat_inj, this]; rfl
        go_wp2
        refine bodyPost_ret (results_tmp rfl _ _ _) rfl ?_
        exact ⟨_, rfl, by rw [HC.out e47]; rfl, hE⟩
      | false =>
        have H1 := SL.hid (show b ≠ 47 by intro e; rw [e] at h47; simp at h47)
        go_wp2
        go_roundw
        case rel =>
          refine ⟨j, by omega, by first | rfl | simp, ?_, hE⟩
          rw [HD.out]
          intro d hd
          rcases List.mem_cons.1 hd with rfl | hd
          · exact H1.out
          · exact Hin.out d hd
        case measure => simp [intOf] <;> omega
end Go.Proofs.YtjmllpgmbaoebaaDoor
namespace Go.Proofs.YtjmllpgmbaoebaaDoor
open Go.RowKit Go.SL

theorem dirD_at {L : List En} (hn : (L.map En.path).Nodup) {p : List UInt8} {k : Nat} (hk : k < L.length) (h : L[k].path = p) : dirD L p = (p == [] || L[k].dir) := by
  rw [dirD]
  congr 1
  rw [Bool.eq_iff_iff, List.any_eq_true]
  constructor
  · rintro ⟨x, hx, h2⟩
    rw [Bool.and_eq_true, beq_iff_eq] at h2
    obtain ⟨j, hj, rfl⟩ := List.getElem_of_mem hx
    have : j = k := (List.getElem_inj (h₀ := by simpa using hj) (h₁ := by simpa using hk) hn).1 (by simp [h, h2.1])
    subst this
    exact h2.2
  · intro hd
    exact ⟨_, List.getElem_mem hk, by simp [h, hd]⟩
theorem dirD_no {L : List En} {p : List UInt8} (h : atD L p = -1) : dirD L p = (p == []) := by
  have : hasD L p = false := by rw [← atD_has, h]; rfl
  rw [dirD]
  have e : (L.any fun x => x.path == p && x.dir) = false := by
    rw [hasD, List.any_eq_false] at this
    rw [List.any_eq_false]
    intro x hx
    have := this x hx
    simp only [Bool.and_eq_true, not_and]
    exact fun h => absurd h this
  rw [e, Bool.or_false]
theorem atD_form (L : List En) (p : List UInt8) : atD L p = -1 ∨ ∃ (k : Nat) (h : k < L.length), atD L p = (k : Int) ∧ L[k].path = p := by
  rw [atD]
  by_cases h : L.findIdx (fun x => x.path == p) < L.length
  · rw [if_pos h]
    exact .inr ⟨_, h, rfl, by simpa using List.findIdx_getElem (w := h)⟩
  · rw [if_neg h]; exact .inl rfl
set_option maxRecDepth 100000 in
set_option maxHeartbeats 2000000 in
attribute [-go_sem] Instr.loadAt in
theorem dir_any {L : List En} (hL : L.length ≤ 1000000) (hn : (L.map En.path).Nodup) (p : List UInt8) {ao : Option Addr} {c : Nat} {l : List HProp} {w : World} (hk : Knows l (reads (.slice ao L.length c) L.length (L.flatMap enC))) (hE : Ent l w) :
    Calls Tryd.prog 50 #[.agg #[.slice ao L.length c], .string ⟨p.toArray⟩] w (Ret fun v w' => v = .bool (dirD L p) ∧ Ent l w') := by
  have HA := SL.hid (show ∀ (A : HProp) w, Ent (A :: l) w → Calls Tryd.prog 49 #[.agg #[.slice ao L.length c], .string ⟨p.toArray⟩] w (Ret fun v w' => v = .int .i64 (atD L p) ∧ Ent (A :: l) w') from fun A w h => at_any hL p (hk.suf (List.suffix_cons _ _)) h)
  have hmb := mkb p []
  rcases atD_form L p with h1 | ⟨k, hlt, h1, h2⟩
  · rw [h1] at HA
    have HD := SL.hid (dirD_no h1)
    clear h1 hk
    cases hp : (p == []) with
    | true =>
      rw [hp] at hmb HD
      go_enter Tryd.func50, Tryd.ntmps50
      go_wp2_with (first
        | go_skip
        | ((with_reducible (show Go.wpList _ _ _ (Go.Oper.mk _ (.box _ _) _ _ _ _ :: _) _ _)); refine wpl_box hE rfl rfl rfl ?_; clear hE; intro b2 w hE; simp only [Act.eval, Act.put, List.setIfInBounds_toArray, List.set_cons_zero, List.set_cons_succ, getD_lit, List.getD_cons_succ, List.getD_cons_zero, Value.cells] at hE)
        | (go_at_call 49; refine (HA.out _ _ hE).mono ?_; clear hE; rintro e w3 ⟨v, rfl, rfl, hE⟩)
        | ((with_reducible (show Go.wpList _ _ _ (Go.Oper.mk _ (.load 33 _) _ _ _ _ :: _) _ _)); (first | (refine wpl_loadW hE 0 rfl rfl rfl rfl Tryd.isAgg33 Tryd.sizeOf33 rfl ?_) | (refine wpl_loadW hE 1 rfl rfl rfl rfl Tryd.isAgg33 Tryd.sizeOf33 rfl ?_) | (refine wpl_loadW hE 2 rfl rfl rfl rfl Tryd.isAgg33 Tryd.sizeOf33 rfl ?_) | (refine wpl_loadW hE 3 rfl rfl rfl rfl Tryd.isAgg33 Tryd.sizeOf33 rfl ?_) | (refine wpl_loadW hE 4 rfl rfl rfl rfl Tryd.isAgg33 Tryd.sizeOf33 rfl ?_) | (refine wpl_loadW hE 5 rfl rfl rfl rfl Tryd.isAgg33 Tryd.sizeOf33 rfl ?_) | (refine wpl_loadW hE 6 rfl rfl rfl rfl Tryd.isAgg33 Tryd.sizeOf33 rfl ?_) | (refine wpl_loadW hE 7 rfl rfl rfl rfl Tryd.isAgg33 Tryd.sizeOf33 rfl ?_)))
        | ((with_reducible (show Go.wpList _ _ _ (Go.Oper.mk _ (.load _ _) _ _ _ _ :: _) _ _)); (first | (refine wpl_load1 hE 0 rfl rfl rfl rfl (by simp [go_sem]) rfl ?_) | (refine wpl_load1 hE 1 rfl rfl rfl rfl (by simp [go_sem]) rfl ?_) | (refine wpl_load1 hE 2 rfl rfl rfl rfl (by simp [go_sem]) rfl ?_) | (refine wpl_load1 hE 3 rfl rfl rfl rfl (by simp [go_sem]) rfl ?_) | (refine wpl_load1 hE 4 rfl rfl rfl rfl (by simp [go_sem]) rfl ?_) | (refine wpl_load1 hE 5 rfl rfl rfl rfl (by simp [go_sem]) rfl ?_) | (refine wpl_load1 hE 6 rfl rfl rfl rfl (by simp [go_sem]) rfl ?_) | (refine wpl_load1 hE 7 rfl rfl rfl rfl (by simp [go_sem]) rfl ?_))))
      refine bodyPost_ret (results_tmp rfl _ _ _) rfl ?_
      exact ⟨_, rfl, by rw [HD.out]; rfl, hE.tail⟩
    | false =>
      rw [hp] at hmb HD
      go_enter Tryd.func50, Tryd.ntmps50
      go_wp2_with (first
        | go_skip
        | ((with_reducible (show Go.wpList _ _ _ (Go.Oper.mk _ (.box _ _) _ _ _ _ :: _) _ _)); refine wpl_box hE rfl rfl rfl ?_; clear hE; intro b2 w hE; simp only [Act.eval, Act.put, List.setIfInBounds_toArray, List.set_cons_zero, List.set_cons_succ, getD_lit, List.getD_cons_succ, List.getD_cons_zero, Value.cells] at hE)
        | (go_at_call 49; refine (HA.out _ _ hE).mono ?_; clear hE; rintro e w3 ⟨v, rfl, rfl, hE⟩)
        | ((with_reducible (show Go.wpList _ _ _ (Go.Oper.mk _ (.load 33 _) _ _ _ _ :: _) _ _)); (first | (refine wpl_loadW hE 0 rfl rfl rfl rfl Tryd.isAgg33 Tryd.sizeOf33 rfl ?_) | (refine wpl_loadW hE 1 rfl rfl rfl rfl Tryd.isAgg33 Tryd.sizeOf33 rfl ?_) | (refine wpl_loadW hE 2 rfl rfl rfl rfl Tryd.isAgg33 Tryd.sizeOf33 rfl ?_) | (refine wpl_loadW hE 3 rfl rfl rfl rfl Tryd.isAgg33 Tryd.sizeOf33 rfl ?_) | (refine wpl_loadW hE 4 rfl rfl rfl rfl Tryd.isAgg33 Tryd.sizeOf33 rfl ?_) | (refine wpl_loadW hE 5 rfl rfl rfl rfl Tryd.isAgg33 Tryd.sizeOf33 rfl ?_) | (refine wpl_loadW hE 6 rfl rfl rfl rfl Tryd.isAgg33 Tryd.sizeOf33 rfl ?_) | (refine wpl_loadW hE 7 rfl rfl rfl rfl Tryd.isAgg33 Tryd.sizeOf33 rfl ?_)))
        | ((with_reducible (show Go.wpList _ _ _ (Go.Oper.mk _ (.load _ _) _ _ _ _ :: _) _ _)); (first | (refine wpl_load1 hE 0 rfl rfl rfl rfl (by simp [go_sem]) rfl ?_) | (refine wpl_load1 hE 1 rfl rfl rfl rfl (by simp [go_sem]) rfl ?_) | (refine wpl_load1 hE 2 rfl rfl rfl rfl (by simp [go_sem]) rfl ?_) | (refine wpl_load1 hE 3 rfl rfl rfl rfl (by simp [go_sem]) rfl ?_) | (refine wpl_load1 hE 4 rfl rfl rfl rfl (by simp [go_sem]) rfl ?_) | (refine wpl_load1 hE 5 rfl rfl rfl rfl (by simp [go_sem]) rfl ?_) | (refine wpl_load1 hE 6 rfl rfl rfl rfl (by simp [go_sem]) rfl ?_) | (refine wpl_load1 hE 7 rfl rfl rfl rfl (by simp [go_sem]) rfl ?_))))
      refine bodyPost_ret (results_tmp rfl _ _ _) rfl ?_
      exact ⟨_, rfl, by rw [HD.out]; rfl, hE.tail⟩
  · rw [h1] at HA
    have HD := SL.hid (dirD_at hn hlt h2)
    obtain ⟨b, off, rfl, hz⟩ := en_at (hk _ hE) hlt
    clear hz
    have f0 := SL.hid (show ∀ w, Ent l w → _ from fun w h => (load_en (hk w h) hlt).2.2.1)
    clear h1 h2 hk
    generalize L[k].dir = xd at *
    cases hp : (p == []) with
    | true =>
      rw [hp] at hmb HD
      go_enter Tryd.func50, Tryd.ntmps50
      go_wp2_with (first
        | go_skip
        | ((with_reducible (show Go.wpList _ _ _ (Go.Oper.mk _ (.box _ _) _ _ _ _ :: _) _ _)); refine wpl_box hE rfl rfl rfl ?_; clear hE; intro b2 w hE; simp only [Act.eval, Act.put, List.setIfInBounds_toArray, List.set_cons_zero, List.set_cons_succ, getD_lit, List.getD_cons_succ, List.getD_cons_zero, Value.cells] at hE)
        | (go_at_call 49; refine (HA.out _ _ hE).mono ?_; clear hE; rintro e w3 ⟨v, rfl, rfl, hE⟩)
        | ((with_reducible (show Go.wpList _ _ _ (Go.Oper.mk _ (.load 4 _) _ _ _ _ :: _) _ _)); refine wpl_run rfl (w' := w3) (v := .bool xd) (by simp only [execOp, Act.eval]; simp [f0.out _ hE.tail]) ?_)
        | ((with_reducible (show Go.wpList _ _ _ (Go.Oper.mk _ (.load 33 _) _ _ _ _ :: _) _ _)); (first | (refine wpl_loadW hE 0 rfl rfl rfl rfl Tryd.isAgg33 Tryd.sizeOf33 rfl ?_) | (refine wpl_loadW hE 1 rfl rfl rfl rfl Tryd.isAgg33 Tryd.sizeOf33 rfl ?_) | (refine wpl_loadW hE 2 rfl rfl rfl rfl Tryd.isAgg33 Tryd.sizeOf33 rfl ?_) | (refine wpl_loadW hE 3 rfl rfl rfl rfl Tryd.isAgg33 Tryd.sizeOf33 rfl ?_) | (refine wpl_loadW hE 4 rfl rfl rfl rfl Tryd.isAgg33 Tryd.sizeOf33 rfl ?_) | (refine wpl_loadW hE 5 rfl rfl rfl rfl Tryd.isAgg33 Tryd.sizeOf33 rfl ?_) | (refine wpl_loadW hE 6 rfl rfl rfl rfl Tryd.isAgg33 Tryd.sizeOf33 rfl ?_) | (refine wpl_loadW hE 7 rfl rfl rfl rfl Tryd.isAgg33 Tryd.sizeOf33 rfl ?_)))
        | ((with_reducible (show Go.wpList _ _ _ (Go.Oper.mk _ (.load _ _) _ _ _ _ :: _) _ _)); (first | (refine wpl_load1 hE 0 rfl rfl rfl rfl (by simp [go_sem]) rfl ?_) | (refine wpl_load1 hE 1 rfl rfl rfl rfl (by simp [go_sem]) rfl ?_) | (refine wpl_load1 hE 2 rfl rfl rfl rfl (by simp [go_sem]) rfl ?_) | (refine wpl_load1 hE 3 rfl rfl rfl rfl (by simp [go_sem]) rfl ?_) | (refine wpl_load1 hE 4 rfl rfl rfl rfl (by simp [go_sem]) rfl ?_) | (refine wpl_load1 hE 5 rfl rfl rfl rfl (by simp [go_sem]) rfl ?_) | (refine wpl_load1 hE 6 rfl rfl rfl rfl (by simp [go_sem]) rfl ?_) | (refine wpl_load1 hE 7 rfl rfl rfl rfl (by simp [go_sem]) rfl ?_))))
      refine bodyPost_ret (results_tmp rfl _ _ _) rfl ?_
      exact ⟨_, rfl, by rw [HD.out]; rfl, hE.tail⟩
    | false =>
      rw [hp] at hmb HD
      go_enter Tryd.func50, Tryd.ntmps50
      go_wp2_with (first
        | go_skip
        | ((with_reducible (show Go.wpList _ _ _ (Go.Oper.mk _ (.box _ _) _ _ _ _ :: _) _ _)); refine wpl_box hE rfl rfl rfl ?_; clear hE; intro b2 w hE; simp only [Act.eval, Act.put, List.setIfInBounds_toArray, List.set_cons_zero, List.set_cons_succ, getD_lit, List.getD_cons_succ, List.getD_cons_zero, Value.cells] at hE)
        | (go_at_call 49; refine (HA.out _ _ hE).mono ?_; clear hE; rintro e w3 ⟨v, rfl, rfl, hE⟩)
        | ((with_reducible (show Go.wpList _ _ _ (Go.Oper.mk _ (.load 4 _) _ _ _ _ :: _) _ _)); refine wpl_run rfl (w' := w3) (v := .bool xd) (by simp only [execOp, Act.eval]; simp [f0.out _ hE.tail]) ?_)
        | ((with_reducible (show Go.wpList _ _ _ (Go.Oper.mk _ (.load 33 _) _ _ _ _ :: _) _ _)); (first | (refine wpl_loadW hE 0 rfl rfl rfl rfl Tryd.isAgg33 Tryd.sizeOf33 rfl ?_) | (refine wpl_loadW hE 1 rfl rfl rfl rfl Tryd.isAgg33 Tryd.sizeOf33 rfl ?_) | (refine wpl_loadW hE 2 rfl rfl rfl rfl Tryd.isAgg33 Tryd.sizeOf33 rfl ?_) | (refine wpl_loadW hE 3 rfl rfl rfl rfl Tryd.isAgg33 Tryd.sizeOf33 rfl ?_) | (refine wpl_loadW hE 4 rfl rfl rfl rfl Tryd.isAgg33 Tryd.sizeOf33 rfl ?_) | (refine wpl_loadW hE 5 rfl rfl rfl rfl Tryd.isAgg33 Tryd.sizeOf33 rfl ?_) | (refine wpl_loadW hE 6 rfl rfl rfl rfl Tryd.isAgg33 Tryd.sizeOf33 rfl ?_) | (refine wpl_loadW hE 7 rfl rfl rfl rfl Tryd.isAgg33 Tryd.sizeOf33 rfl ?_)))
        | ((with_reducible (show Go.wpList _ _ _ (Go.Oper.mk _ (.load _ _) _ _ _ _ :: _) _ _)); (first | (refine wpl_load1 hE 0 rfl rfl rfl rfl (by simp [go_sem]) rfl ?_) | (refine wpl_load1 hE 1 rfl rfl rfl rfl (by simp [go_sem]) rfl ?_) | (refine wpl_load1 hE 2 rfl rfl rfl rfl (by simp [go_sem]) rfl ?_) | (refine wpl_load1 hE 3 rfl rfl rfl rfl (by simp [go_sem]) rfl ?_) | (refine wpl_load1 hE 4 rfl rfl rfl rfl (by simp [go_sem]) rfl ?_) | (refine wpl_load1 hE 5 rfl rfl rfl rfl (by simp [go_sem]) rfl ?_) | (refine wpl_load1 hE 6 rfl rfl rfl rfl (by simp [go_sem]) rfl ?_) | (refine wpl_load1 hE 7 rfl rfl rfl rfl (by simp [go_sem]) rfl ?_))))
      refine bodyPost_ret (results_tmp rfl _ _ _) rfl ?_
      exact ⟨_, rfl, by rw [HD.out]; rfl, hE.tail⟩
/-- the places of what is right in a directory -/
def kidsFrom (p : List UInt8) : Nat → List En → List Nat
  | _, [] => []
  | n, x :: r => if parP x.path == p then n :: kidsFrom p (n + 1) r else kidsFrom p (n + 1) r
theorem kidsFrom_snoc (p : List UInt8) (x : En) : ∀ (l : List En) (n : Nat), kidsFrom p n (l ++ [x]) = kidsFrom p n l ++ (if parP x.path == p then [n + l.length] else [])
  | [], n => by simp only [List.nil_append, kidsFrom, List.length_nil, Nat.add_zero]
  | y :: r, n => by
    rw [List.cons_append, kidsFrom, kidsFrom_snoc p x r (n + 1), kidsFrom, List.length_cons, show n + (r.length + 1) = n + 1 + r.length by omega]
    split <;> simp
theorem kidsFrom_lt (p : List UInt8) : ∀ (l : List En) (n : Nat), ∀ i ∈ kidsFrom p n l, n ≤ i ∧ i < n + l.length
  | [], n => by simp [kidsFrom]
  | y :: r, n => fun i hi => by
    have ih := kidsFrom_lt p r (n + 1)
    rw [kidsFrom] at hi
    rw [List.length_cons]
    split at hi
    · rcases List.mem_cons.1 hi with rfl | h
      · omega
      · have := ih i h; omega
    · have := ih i hi; omega
theorem kidsFrom_map (p : List UInt8) (d : En) : ∀ (r l : List En), (kidsFrom p l.length r).map (fun i => (l ++ r).getD i d) = kidsD r p
  | [], l => by simp [kidsFrom, kidsD]
  | y :: r, l => by
    have ih := kidsFrom_map p d r (l ++ [y])
    rw [List.append_assoc, List.singleton_append, List.length_append, List.length_singleton] at ih
    rw [kidsFrom, kidsD, List.filter_cons]
    split
    · rw [List.map_cons, ih, kidsD]
      congr 1
      rw [List.getD_eq_getElem?_getD, List.getElem?_append_right (Nat.le_refl _), Nat.sub_self]
      rfl
    · exact ih
def kidsI (L : List En) (p : List UInt8) : List Nat := kidsFrom p 0 L
theorem kidsI_map (L : List En) (p : List UInt8) (d : En) : (kidsI L p).map (fun i => L.getD i d) = kidsD L p := kidsFrom_map p d L []
theorem kidsI_len (L : List En) (p : List UInt8) : (kidsI L p).length = (kidsD L p).length := by rw [← kidsI_map L p ⟨[], false, []⟩, List.length_map]
theorem kidsI_lt {L : List En} {p : List UInt8} {i : Nat} (h : i ∈ kidsI L p) : i < L.length := by have := kidsFrom_lt p L 0 i h; omega
end Go.Proofs.YtjmllpgmbaoebaaDoor
namespace Go.Proofs.YtjmllpgmbaoebaaDoor
open Go.RowKit Go.SL

def intv (i : Nat) : Value := .int .i64 (i : Int)
abbrev rowN (ao : Option Addr) (c : Nat) (is : List Nat) : HProp := row 3 1 (.slice ao is.length c) is.length (is.map intv)
theorem info_int : elemInfo Tryd.prog 3 = some (some 1, 1, 8) := by kernel_rfl
theorem kidsI_snoc (L : List En) (p : List UInt8) {k : Nat} (hk : k < L.length) : kidsI (L.take (k + 1)) p = kidsI (L.take k) p ++ (if parP L[k].path == p then [k] else []) := by
  rw [kidsI, List.take_succ_eq_append_getElem hk, kidsFrom_snoc, List.length_take, Nat.min_eq_left (by omega), Nat.zero_add]
  rfl
theorem kidsI_le (L : List En) (p : List UInt8) : (kidsI L p).length ≤ L.length := by
  rw [kidsI_len, kidsD]; exact List.length_filter_le _ _
def KdRel (L : List En) (p : List UInt8) (l : List HProp) (o i : Value) (wr : World) : Prop :=
  ∃ (k : Nat) (ao : Option Addr) (c : Nat), k ≤ L.length ∧ i = .int .i64 k ∧ o = .slice ao (kidsI (L.take k) p).length c ∧ Ent (rowN ao c (kidsI (L.take k) p) :: l) wr
set_option maxRecDepth 100000 in
set_option maxHeartbeats 2000000 in
attribute [-go_sem] Instr.loadAt in
theorem kids_any {L : List En} (hL : L.length ≤ 1000000) (hb : ∀ x ∈ L, x.path.length ≤ 1000000) (p : List UInt8) {ao : Option Addr} {c : Nat} {l : List HProp} {w : World} (hk : Knows l (reads (.slice ao L.length c) L.length (L.flatMap enC))) (hE : Ent l w) :
    Calls Tryd.prog 36 #[.agg #[.slice ao L.length c], .string ⟨p.toArray⟩] w (Ret fun v w' => ∃ a' c', v = .slice a' (kidsI L p).length c' ∧ Ent (rowN a' c' (kidsI L p) :: l) w') := by
  go_enter Tryd.func36, Tryd.ntmps36
  go_wp2_with (first
    | go_skip
    | ((with_reducible (show Go.wpList _ _ _ (Go.Oper.mk _ (.box _ _) _ _ _ _ :: _) _ _)); refine wpl_box hE rfl rfl rfl ?_; clear hE; intro b2 w hE; simp only [Act.eval, Act.put, List.setIfInBounds_toArray, List.set_cons_zero, List.set_cons_succ, getD_lit, List.getD_cons_succ, List.getD_cons_zero, Value.cells] at hE))
  go_loopw [5, 6] (fun o i wr => KdRel L p (pt b2 (.cells #[.slice ao L.length c] 33) :: l) o i wr) (fun _ i _ => L.length - (intOf i).toNat)
  case atStart => exact ⟨0, none, 0, Nat.zero_le _, rfl, rfl, hE.nil _ _⟩
  case round =>
    clear hE
    obtain ⟨k, ar, cr, hkn, rfl, rfl, hE⟩ := hrel
    by_cases hlt : k < L.length
    · obtain ⟨b, off, rfl, hz⟩ := en_at (hk _ hE.tail.tail) hlt
      clear hz
      have f0 := SL.hid (show ∀ w, Ent l w → _ from fun w h => (load_en (hk w h) hlt).2.1)
      have Ht := SL.hid (kidsI_snoc L p hlt)
      have hlp := SL.hid (hb _ (List.getElem_mem hlt))
      have hle := kidsI_le (L.take k) p
      rw [List.length_take] at hle
      have HP := SL.hid (fun (l : List HProp) (w : World) (h : Ent l w) => Parent_any (p := L[k].path) (hb _ (List.getElem_mem hlt)) h)
      generalize L[k] = x at *
      generalize kidsI (L.take k) p = pr at *
      obtain ⟨xp, xd, xb⟩ := x
      simp only at f0 HP
      generalize hq : parP xp = q at *
      have Hq := SL.hid hq
      have hm := mkb q p
      clear hq
      cases hp : (q == p) with
      | true =>
        rw [hp] at hm
        go_wp2_with (first
          | go_skip
          | ((with_reducible (show Go.wpList _ _ _ (Go.Oper.mk _ (.load 9 _) _ _ _ _ :: _) _ _)); refine wpl_run rfl (w' := _) (v := .string ⟨xp.toArray⟩) (by simp only [execOp, Act.eval]; simp [f0.out _ hE.tail.tail]; rfl) ?_)
          | (go_at_call 51; refine (HP.out _ _ hE).mono ?_; clear hE; rintro e w3 ⟨v, rfl, rfl, hE⟩)
          | ((with_reducible (show Go.wpList _ _ _ (Go.Oper.mk _ (.load _ _) _ _ _ _ :: _) _ _)); (first | (refine wpl_load1 hE 0 rfl rfl rfl rfl (by simp [go_sem]) rfl ?_) | (refine wpl_load1 hE 1 rfl rfl rfl rfl (by simp [go_sem]) rfl ?_) | (refine wpl_load1 hE 2 rfl rfl rfl rfl (by simp [go_sem]) rfl ?_) | (refine wpl_load1 hE 3 rfl rfl rfl rfl (by simp [go_sem]) rfl ?_) | (refine wpl_load1 hE 4 rfl rfl rfl rfl (by simp [go_sem]) rfl ?_) | (refine wpl_load1 hE 5 rfl rfl rfl rfl (by simp [go_sem]) rfl ?_) | (refine wpl_load1 hE 6 rfl rfl rfl rfl (by simp [go_sem]) rfl ?_) | (refine wpl_load1 hE 7 rfl rfl rfl rfl (by simp [go_sem]) rfl ?_)))
          | ((with_reducible (show Go.wpList _ _ _ (Go.Oper.mk _ (.call { callee := .builtin .append, args := _, argTypes := _ }) _ _ _ _ :: _) _ _)); have hE9 := hE.alloc (.cells #[.int .i64 (k : Int)] 3); refine wpl_appendG hE9 1 rfl rfl rfl rfl rfl Tryd.underlying72 info_int (by decide) (m := 1) (news := [intv k]) (reads_pt hE9 0 rfl (off := 0) (fun j u hu => by rw [Nat.zero_add, List.getElem?_toArray]; exact hu)) rfl (by simp [intv, Value.oneCell']) (by omega) (by omega) ?_; clear hE9 hE; intro ao' c' w6 hE10; simp only [List.set_cons_zero, List.set_cons_succ] at hE10))
        go_roundw
        case rel =>
          have hF := hE10.tail
          have e0 : kidsI (L.take (k + 1)) p = pr ++ [k] := by rw [Ht.out]; simp only [Hq.out, hp, if_true]
          have e1 : (pr ++ [k]).length = pr.length + 1 := by simp
          have e2 : (pr ++ [k]).map intv = pr.map intv ++ [intv k] := by simp
          refine ⟨k + 1, ao', c', hlt, by first | rfl | simp, by rw [e0, e1], by rw [e0]; simp only [rowN, e1, e2]; exact hF⟩
        case measure => simp [intOf] <;> omega
      | false =>
        rw [hp] at hm
        go_wp2_with (first
          | go_skip
          | ((with_reducible (show Go.wpList _ _ _ (Go.Oper.mk _ (.load 9 _) _ _ _ _ :: _) _ _)); refine wpl_run rfl (w' := _) (v := .string ⟨xp.toArray⟩) (by simp only [execOp, Act.eval]; simp [f0.out _ hE.tail.tail]; rfl) ?_)
          | (go_at_call 51; refine (HP.out _ _ hE).mono ?_; clear hE; rintro e w3 ⟨v, rfl, rfl, hE⟩)
          | ((with_reducible (show Go.wpList _ _ _ (Go.Oper.mk _ (.load _ _) _ _ _ _ :: _) _ _)); (first | (refine wpl_load1 hE 0 rfl rfl rfl rfl (by simp [go_sem]) rfl ?_) | (refine wpl_load1 hE 1 rfl rfl rfl rfl (by simp [go_sem]) rfl ?_) | (refine wpl_load1 hE 2 rfl rfl rfl rfl (by simp [go_sem]) rfl ?_) | (refine wpl_load1 hE 3 rfl rfl rfl rfl (by simp [go_sem]) rfl ?_) | (refine wpl_load1 hE 4 rfl rfl rfl rfl (by simp [go_sem]) rfl ?_) | (refine wpl_load1 hE 5 rfl rfl rfl rfl (by simp [go_sem]) rfl ?_) | (refine wpl_load1 hE 6 rfl rfl rfl rfl (by simp [go_sem]) rfl ?_) | (refine wpl_load1 hE 7 rfl rfl rfl rfl (by simp [go_sem]) rfl ?_))))
        go_roundw
        case rel =>
          have e0 : kidsI (L.take (k + 1)) p = pr := by rw [Ht.out]; simp [Hq.out, hp]
          exact ⟨k + 1, ar, cr, hlt, by first | rfl | simp, by rw [e0], by rw [e0]; exact hE⟩
        case measure => simp [intOf] <;> omega
    · obtain rfl : k = L.length := by omega
      rw [List.take_length] at hE ⊢
      go_wp2_with (first
        | go_skip
        | ((with_reducible (show Go.wpList _ _ _ (Go.Oper.mk _ (.load _ _) _ _ _ _ :: _) _ _)); (first | (refine wpl_load1 hE 0 rfl rfl rfl rfl (by simp [go_sem]) rfl ?_) | (refine wpl_load1 hE 1 rfl rfl rfl rfl (by simp [go_sem]) rfl ?_) | (refine wpl_load1 hE 2 rfl rfl rfl rfl (by simp [go_sem]) rfl ?_) | (refine wpl_load1 hE 3 rfl rfl rfl rfl (by simp [go_sem]) rfl ?_) | (refine wpl_load1 hE 4 rfl rfl rfl rfl (by simp [go_sem]) rfl ?_) | (refine wpl_load1 hE 5 rfl rfl rfl rfl (by simp [go_sem]) rfl ?_) | (refine wpl_load1 hE 6 rfl rfl rfl rfl (by simp [go_sem]) rfl ?_) | (refine wpl_load1 hE 7 rfl rfl rfl rfl (by simp [go_sem]) rfl ?_))))
      refine bodyPost_ret (results_tmp rfl _ _ _) rfl ?_
      exact ⟨_, rfl, ar, cr, rfl, hE.erase 1⟩
end Go.Proofs.YtjmllpgmbaoebaaDoor
namespace Go.Proofs.YtjmllpgmbaoebaaDoor
open Go.RowKit Go.SL

def RsRel (p : List UInt8) (l : List HProp) (o fr i : Value) (wr : World) : Prop :=
  ∃ (pre : List (List UInt8)) (f k : Nat) (ao : Option Addr) (c : Nat), o = .slice ao pre.length c ∧ fr = .int .i64 f ∧ i = .int .i64 k ∧ pre.all isName = true ∧ pre.length ≤ k ∧ k ≤ p.length + 1 ∧
    ((f ≤ k ∧ k ≤ p.length ∧ cuts p = pre ++ cuts (p.drop f) ∧ ∀ b ∈ (p.drop f).take (k - f), b ≠ 47) ∨ (k = p.length + 1 ∧ cuts p = pre)) ∧ Ent (rowS ao c pre :: l) wr
theorem slash_next {p : List UInt8} {f k : Nat} (hf : f ≤ k) (hk : k < p.length) : (p.drop f).take (k + 1 - f) = (p.drop f).take (k - f) ++ [p.getD k 0] := by
  have h : k - f < (p.drop f).length := by rw [List.length_drop]; omega
  rw [show k + 1 - f = (k - f) + 1 by omega, List.take_succ_eq_append_getElem h, List.getElem_drop]
  congr 2
  rw [List.getD_eq_getElem?_getD, List.getElem?_eq_getElem hk]
  simp [show f + (k - f) = k by omega]
theorem slash_cut {p : List UInt8} {f k : Nat} (hf : f ≤ k) (hk : k < p.length) (h : p.getD k 0 = 47) (ha : ∀ b ∈ (p.drop f).take (k - f), b ≠ 47) : cuts (p.drop f) = (p.drop f).take (k - f) :: cuts (p.drop (k + 1)) := by
  have e : p.drop f = (p.drop f).take (k - f) ++ 47 :: p.drop (k + 1) := by
    have h2 := slash_next hf hk
    rw [h] at h2
    have h3 := (List.take_append_drop (k + 1 - f) (p.drop f)).symm
    rw [List.drop_drop, show f + (k + 1 - f) = k + 1 by omega, h2, List.append_assoc] at h3
    exact h3
  conv => lhs; rw [e]
  exact cuts_app _ ha
theorem slash_last {p : List UInt8} {f : Nat} (hf : f ≤ p.length) (ha : ∀ b ∈ (p.drop f).take (p.length - f), b ≠ 47) : (p.drop f).take (p.length - f) = p.drop f ∧ cuts (p.drop f) = [p.drop f] := by
  have e : (p.drop f).take (p.length - f) = p.drop f := List.take_of_length_le (by rw [List.length_drop]; omega)
  rw [e] at ha
  exact ⟨e, cuts_free ha⟩

set_option maxRecDepth 100000 in
set_option maxHeartbeats 4000000 in
theorem rSplit_any {p : List UInt8} (hp : p.length ≤ 1000000) {l : List HProp} {w : World} (hE : Ent l w) :
    Calls Tryd.prog 48 #[.string ⟨p.toArray⟩] w (Ret fun v w' => ∃ ao c, v = .tuple #[.slice ao (splitL p).length c, .int .i64 (splitE p)] ∧ Ent (rowS ao c (splitL p) :: l) w') := by
  by_cases h0 : p = []
  · subst h0
    go_enter Tryd.func48, Tryd.ntmps48
    go_wp2
    go_ret2
    exact ⟨_, rfl, none, 0, rfl, hE.nil _ _⟩
  have hne : (p == []) = false := by simpa using h0
  go_enter Tryd.func48, Tryd.ntmps48
  go_wp2
  go_loopw [4, 5, 6] (fun o fr i wr => RsRel p l o fr i wr) (fun _ _ i _ => p.length + 1 - (intOf i).toNat)
  case atStart => exact ⟨[], 0, 0, none, 0, rfl, rfl, rfl, rfl, Nat.le_refl _, Nat.zero_le _, .inl ⟨Nat.le_refl _, Nat.zero_le _, rfl, by simp⟩, hE.nil _ _⟩
  case round =>
    clear hE
    obtain ⟨pre, f, k, ao, c, rfl, rfl, rfl, hall, hpk, hkl, hst, hE⟩ := hrel
    have Hall := SL.hid hall
    clear hall
    by_cases hlt : k ≤ p.length
    · obtain ⟨hf, _, hc, ha⟩ := hst.resolve_right (by rintro ⟨h, _⟩; omega)
      clear hst
      have hwk : wrap64 ((k : Int) + 1) = ((k + 1 : Nat) : Int) := by unfold wrap64; omega
      have hex : (⟨p.toArray⟩ : ByteArray).extract f k = ⟨((p.drop f).take (k - f)).toArray⟩ := extract_mk p f k
      have hN := fun w => rName_any ((p.drop f).take (k - f)) (by rw [List.length_take, List.length_drop]; omega) w
      by_cases hi : k < p.length
      · have hix := str_at p k (by rw [bytes_size]; exact hi)
        have Hnx := SL.hid (slash_next hf hi)
        have Hct := SL.hid (slash_cut hf hi)
        cases h47 : (((p.getD k 0).toNat : Int) != 47) with
        | true =>
          have H1 := SL.hid (show p.getD k 0 ≠ 47 by intro e; rw [e] at h47; simp at h47)
          have Hc := SL.hid hc
          have Ha := SL.hid ha
          clear hc ha hex hN
          generalize p.getD k 0 = b at *
          go_wp2
          go_roundw
          case rel =>
            refine ⟨pre, f, k + 1, ao, c, rfl, rfl, by first | rfl | simp, Hall.out, by omega, by omega, .inl ⟨by omega, by omega, Hc.out, ?_⟩, hE⟩
            rw [Hnx.out]
            intro d hd
            simp only [List.mem_append, List.mem_singleton] at hd
            rcases hd with hd | rfl
            · exact Ha.out d hd
            · exact H1.out
          case measure => simp [intOf] <;> omega
        | false =>
          have e47 : p.getD k 0 = 47 := by
            have : (p.getD k 0).toNat = 47 := by
              have h : ((p.getD k 0).toNat : Int) = 47 := by simpa using h47
              omega
            rw [← UInt8.toNat_inj, this]; rfl
          have Hcc := SL.hid (show cuts p = (pre ++ [(p.drop f).take (k - f)]) ++ cuts (p.drop (k + 1)) by rw [hc, Hct.out e47 ha]; simp)
          have hlx : ((p.drop f).take (k - f)).length ≤ 1000000 := by rw [List.length_take, List.length_drop]; omega
          clear hc ha Hct Hnx
          generalize (p.drop f).take (k - f) = x at *
          generalize p.getD k 0 = b at *
          cases hn : isName x with
          | false =>
            rw [hn] at hN
            have R := SL.hid (split_bad h0 (x := x) (by rw [Hcc.out]; simp) hn)
            clear hn
            go_wp2_with (first
              | go_skip
              | (go_at_call 38; refine (hN _).mono ?_; rintro e w2 ⟨rfl, rfl⟩))
            go_ret2
            exact ⟨_, rfl, none, 0, by rw [R.out.1, R.out.2]; rfl, by rw [R.out.1]; exact hE.tail.nil _ _⟩
          | true =>
            rw [hn] at hN
            have Hn := SL.hid (show (pre ++ [x]).all isName = true by rw [List.all_append, Hall.out]; simp [hn])
            clear hn
            go_wp2_with (first
              | go_skip
              | (go_at_call 38; refine (hN _).mono ?_; rintro e w2 ⟨rfl, rfl⟩)
              | ((with_reducible (show Go.wpList _ _ _ (Go.Oper.mk _ (.call { callee := .builtin .append, args := _, argTypes := _ }) _ _ _ _ :: _) _ _)); have hE9 := hE.alloc (.cells #[.string ⟨x.toArray⟩] 9); refine wpl_appendG hE9 1 rfl rfl rfl rfl rfl Tryd.underlying23 info_str (by decide) (m := 1) (news := [strv x]) (reads_pt hE9 0 rfl (off := 0) (fun j u hu => by rw [Nat.zero_add, List.getElem?_toArray]; exact hu)) rfl (by simp [strv, Value.oneCell']) (by omega) (by omega) ?_; clear hE9 hE; intro ao' c' w6 hE10; simp only [List.set_cons_zero, List.set_cons_succ] at hE10))
            go_roundw
            case measure => simp [intOf] <;> omega
            case rel =>
              have hF := hE10.tail
              have e1 : (pre ++ [x]).length = pre.length + 1 := by simp
              have e2 : (pre ++ [x]).map strv = pre.map strv ++ [strv x] := by simp
              refine ⟨pre ++ [x], k + 1, k + 1, ao', c', by rw [e1], by first | rfl | simp, by first | rfl | simp, Hn.out, by rw [e1]; omega, by omega, .inl ⟨Nat.le_refl _, by omega, Hcc.out, by simp⟩, by simp only [rowS, e1, e2]; exact hF⟩
      · obtain rfl : k = p.length := by omega
        obtain ⟨ex, ec⟩ := slash_last hf ha
        have Hcc := SL.hid (show cuts p = pre ++ [(p.drop f).take (p.length - f)] by rw [hc, ec, ex])
        have hlx : ((p.drop f).take (p.length - f)).length ≤ 1000000 := by rw [List.length_take, List.length_drop]; omega
        clear hc ha ex ec
        generalize (p.drop f).take (p.length - f) = x at *
        cases hn : isName x with
        | false =>
          rw [hn] at hN
          have R := SL.hid (split_bad h0 (x := x) (by rw [Hcc.out]; simp) hn)
          clear hn
          go_wp2_with (first
            | go_skip
            | (go_at_call 38; refine (hN _).mono ?_; rintro e w2 ⟨rfl, rfl⟩))
          go_ret2
          exact ⟨_, rfl, none, 0, by rw [R.out.1, R.out.2]; rfl, by rw [R.out.1]; exact hE.tail.nil _ _⟩
        | true =>
          rw [hn] at hN
          have Hn := SL.hid (show (pre ++ [x]).all isName = true by rw [List.all_append, Hall.out]; simp [hn])
          clear hn
          go_wp2_with (first
            | go_skip
            | (go_at_call 38; refine (hN _).mono ?_; rintro e w2 ⟨rfl, rfl⟩)
            | ((with_reducible (show Go.wpList _ _ _ (Go.Oper.mk _ (.call { callee := .builtin .append, args := _, argTypes := _ }) _ _ _ _ :: _) _ _)); have hE9 := hE.alloc (.cells #[.string ⟨x.toArray⟩] 9); refine wpl_appendG hE9 1 rfl rfl rfl rfl rfl Tryd.underlying23 info_str (by decide) (m := 1) (news := [strv x]) (reads_pt hE9 0 rfl (off := 0) (fun j u hu => by rw [Nat.zero_add, List.getElem?_toArray]; exact hu)) rfl (by simp [strv, Value.oneCell']) (by omega) (by omega) ?_; clear hE9 hE; intro ao' c' w6 hE10; simp only [List.set_cons_zero, List.set_cons_succ] at hE10))
          go_roundw
          case measure => simp [intOf] <;> omega
          case rel =>
            have hF := hE10.tail
            have e1 : (pre ++ [x]).length = pre.length + 1 := by simp
            have e2 : (pre ++ [x]).map strv = pre.map strv ++ [strv x] := by simp
            refine ⟨pre ++ [x], p.length + 1, p.length + 1, ao', c', by rw [e1], by first | rfl | simp, by first | rfl | simp, Hn.out, by rw [e1]; omega, by omega, .inr ⟨by omega, by rw [Hcc.out]⟩, by simp only [rowS, e1, e2]; exact hF⟩
    · obtain ⟨_, hc⟩ := hst.resolve_left (by rintro ⟨_, h, _⟩; omega)
      have hall := Hall.out
      rw [← hc] at hall hE ⊢
      by_cases h6 : (cuts p).length ≤ 6
      · have R := SL.hid (split_good h0 hall h6)
        have hd : decide ((6 : Int) < ((cuts p).length : Int)) = false := decide_eq_false (by omega)
        clear h6 hall hc hst
        go_wp2
        go_ret2
        exact ⟨_, rfl, ao, c, by rw [R.out.1, R.out.2]; rfl, by rw [R.out.1]; exact hE⟩
      · have R := SL.hid (split_many h0 hall h6)
        have hd : (6 : Int) < ((cuts p).length : Int) := by omega
        clear h6 hall hc hst
        go_wp2
        go_ret2
        exact ⟨_, rfl, none, 0, by rw [R.out.1, R.out.2]; rfl, by rw [R.out.1]; exact hE.tail.nil _ _⟩
end Go.Proofs.YtjmllpgmbaoebaaDoor
