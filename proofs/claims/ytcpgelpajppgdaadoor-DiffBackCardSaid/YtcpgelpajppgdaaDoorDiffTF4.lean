/-
  All entries of a tree, as the program tells them; an append onto a slice that is full and only read; slices.Clip. Printed by gen_fw7.py.
-/
import Derived.Test.YtcpgelpajppgdaaDoorDiffTF3
import Derived.Deep.RegionHeld
namespace Go.SL
section
variable {P : Program} {w : World} {l : List HProp}
theorem reads_cap {ao : Option Addr} {n c : Nat} {xs : List Value} (h : reads (.slice ao n c) n xs w) (c' : Nat) : reads (.slice ao n c') n xs w := by
  obtain ⟨a, c0, e, h1, h2⟩ := h
  cases e
  exact ⟨_, c', rfl, h1, h2⟩
theorem Ent.appendFull {e : TypeId} {size bytes : Nat} {t : TypeId} (ty : TypeId) (hE : Ent l w) (ht : P.underlying t = some (.slice e)) (hI : elemInfo P e = some (some size, size, bytes)) (hsz : 0 < size)
    {ao : Option Addr} {n : Nat} {xs : List Value} (hr : reads (.slice ao n n) n xs w) (hxl : xs.length = n * size)
    {ad : Addr} {m c : Nat} {news : List Value} (hx : reads (.slice (some ad) m c) m news w) (hl : news.length = m * size) (hm : 0 < m) (h1 : ∀ u ∈ news, u.oneCell' = true) (hbytes : (n + m) * bytes ≤ 140737488355328) (h63 : n + m ≤ 140737488355328) :
    ∃ ao' c' w', (Builtin.append_ #[t, t] ty #[.slice ao n n, .slice (some ad) m c]).run P w = .ok (.slice ao' (n + m) c') w' ∧ Ent (row e size (.slice ao' (n + m) c') (n + m) (xs ++ news) :: l) w' := by
  obtain ⟨i, z, hi, hz, hs, hb, hzs⟩ := elemInfo_parts hI
  subst hs hb
  obtain ⟨ao2, c2, e2, hnone, hc⟩ := hr
  cases e2
  obtain ⟨ad3, c3, e3, _, hc3⟩ := hx
  cases e3
  have hsrc := Src.ofSlice (P := P) w ht ad m c news hl (hc3 ad rfl) h1
  have hlen : (xs ++ news).length = (n + m) * i.size := by rw [List.length_append, hxl, hl, Nat.add_mul]
  have hzero : ∀ k, (Builtin.zeroCells z.cells k).size = k * i.size := fun k => by rw [size_zeroCells, hzs]
  have hold : (Builtin.firstCells i.size n (.slice ao n n)).run P w.drew = .ok xs.toArray w.drew := by
    cases ao with
    | none =>
      obtain ⟨rfl, rfl⟩ := hnone rfl
      exact run_firstCells_none w.drew i.size 0 0 0
    | some a => exact run_firstCells_some w.drew i.size n a n n xs hxl (hc a rfl)
  have hr := run_append_grow_src w t t ty e i z ht hi hz ao n n xs hold (.slice (some ad) m c) m news hsrc (by omega) (by omega) (growslice_fits (by omega) hbytes)
  have hge := grownCap_ge w (n + m) n e
  refine ⟨_, _, _, hr, hE.step0 (Bs := [row e i.size _ (n + m) (xs ++ news)]) ⟨rfl, rfl, rfl⟩ (by simp) (fun b hb => RowKit.Below.heap_alloc w.drew _ b hb) ⟨fun b => b = w.heap.size, on_single ?_, fun b hb => by omega⟩⟩
  unfold row
  refine ⟨⟨hlen, .inr ⟨w.heap.size, _, _, rfl, Nat.zero_le _, heap_alloc_new w.drew _, hge, grownCap_le_maxLen w (n + m) n e (by unfold maxLen; omega), ?_, ?_⟩⟩, fun b => by simp [Value.ownBlock, eq_comm]⟩
  · rw [Array.size_append, hzero, List.size_toArray, hlen, ← Nat.add_mul]
    congr 1
    omega
  · rw [Array.toList_append, ← hlen]
    exact List.take_left
variable {ops : Array Oper} {o : Oper} {a : Act} {K : Act → World → Prop} {Q : Exit → Act → World → Prop} {E : Prop}
theorem step_appendFull {e : TypeId} {size bytes : Nat} {t : TypeId} (hE : Ent l w) {s y : Operand} (ho : o.op = .call { callee := .builtin .append, args := #[s, y], argTypes := #[t, t] }) (hw : Region.wanted o (yielded ops a.tmps) = true)
    {ao : Option Addr} {n : Nat} (hs : a.eval s = .slice ao n n) {ad : Addr} {m c : Nat} (hy : a.eval y = .slice (some ad) m c) (ht : P.underlying t = some (.slice e)) (hI : elemInfo P e = some (some size, size, bytes)) (hsz : 0 < size)
    {xs : List Value} (hr : reads (.slice ao n n) n xs w) (hxl : xs.length = n * size) {news : List Value} (hx : reads (.slice (some ad) m c) m news w) (hl : news.length = m * size) (hm : 0 < m) (h1 : ∀ u ∈ news, u.oneCell' = true) (hbytes : (n + m) * bytes ≤ 140737488355328) (h63 : n + m ≤ 140737488355328)
    (h : ∀ ao' c' w', Ent (row e size (.slice ao' (n + m) c') (n + m) (xs ++ news) :: l) w' → K (a.put o.dst (.slice ao' (n + m) c')) w') : if Region.wanted o (yielded ops a.tmps) = true then Oper.wp P o a w K Q else E := by
  rw [if_pos hw]
  obtain ⟨ao', c', w', hr0, hE'⟩ := hE.appendFull (P := P) o.type ht hI hsz hr hxl hx hl hm h1 hbytes h63
  unfold Oper.wp execOp
  simp only [ho, resolve, invoke, builtin, Sem.run_bind, Sem.run_pure, Result.andThen_ok, List.map_toArray, List.map_cons, List.map_nil, hs, hy, hr0]
  exact h ao' c' w' hE'
theorem step_build1 (hE : Ent l w) {t e : TypeId} {x : Operand} (ho : o.op = .buildSlice t 1 #[(0, x)]) (hw : Region.wanted o (yielded ops a.tmps) = true) {xs : List Value} (hx : a.eval x = .agg xs.toArray)
    (ht : P.underlying t = some (.slice e)) {size : Nat} (hI : zeroSize P e = some size) (hn : ∀ w, (Go.sizeOf e).run P w = .ok size w) (h0 : 0 < size) (h24 : size ≤ 16777216) (hxl : xs.length = size)
    (h : ∀ b w', Ent (pt b (.cells xs.toArray e) :: l) w' → K (a.put o.dst (.slice (some ⟨b, 0, none⟩) 1 1)) w') : if Region.wanted o (yielded ops a.tmps) = true then Oper.wp P o a w K Q else E := by
  have hr := run_buildSlice1 (P := P) (w := w) ht hI hn h0 h24 xs hxl
  refine step_run hw (w' := w.alloc (.cells xs.toArray e)) (v := .slice (some ⟨w.heap.size, 0, none⟩) 1 1) ?_ (h _ _ (hE.alloc _))
  simp [execOp, ho, hx, hr]
/-- one cell written, as one step of a region that draws -/
theorem step_setC (hE : Ent l w) (i : Nat) {b : Nat} {cur : Array Value} {T : TypeId} (hi : l[i]? = some (pt b (.cells cur T (0, 0))))
    {t : TypeId} {x y : Operand} (ho : o.op = .store t x y) (hw : Region.wanted o (yielded ops a.tmps) = true) {off : Nat} (hx : a.eval x = .pointer (some ⟨b, off, none⟩)) {v : Value} (hy : a.eval y = v)
    (hn : ∀ w, (Go.sizeOf t).run P w = .ok 1 w) (hv : v.cells = #[v]) (h1 : v.oneCell' = true) (hfit : off < cur.size)
    (h : ∀ w', Ent (l.set i (pt b (.cells (cur.setIfInBounds off v) T (0, 0)))) w' → K (a.put o.dst undef) w') : if Region.wanted o (yielded ops a.tmps) = true then Oper.wp P o a w K Q else E := by
  rw [if_pos hw]
  have hr := run_storeV (P := P) hE i hi (t := t) (v := v) (n := 1) hn (by rw [hv]; rfl) (by rw [hv]; simpa using h1) (off := off) (by omega)
  have e : (cur.toList.take off ++ v.cells.toList ++ cur.toList.drop (off + v.cells.toList.length)).toArray = cur.setIfInBounds off v := by
    rw [hv]
    apply Array.ext'
    rw [Array.toList_setIfInBounds, List.set_eq_take_append_cons_drop, if_pos (by simpa using hfit)]
    simp
  rw [e] at hr
  have hx2 : (execOp a.eval o).run P w = .ok .skip (w.setRow b (cur.setIfInBounds off v)) := by simp [execOp, ho, hx, hy, hr]
  simp only [Oper.wp, hx2, Oper.upon]
  exact h _ (hE.setRow i hi _)
end
end Go.SL
namespace Go.Proofs.YtcpgelpajppgdaaDoor
open Go.RowKit Go.SL

theorem Clip_any (ao : Option Addr) (n c : Nat) (h : n ≤ c) (w : World) : Calls Tryd.prog 52 #[.slice ao n c] w (fun e w' => e = .returned (.slice ao n n) ∧ w' = w) := by
  have hs : ∀ w, (Instr.sliceAt 75 (.slice ao n c) none (some (.int .i64 n)) (some (.int .i64 n))).run Tryd.prog w = .ok (.slice ao n n) w := fun w => by
    rw [sliceAt_slice Tryd.underlying75]
    have hz : ∀ w, (Go.sizeOf 9).run Tryd.prog w = .ok 1 w := fun w => by first | (simp [go_sem]; done) | (simp [go_sem]; rfl)
    have a1 : ((n : Int) ≤ (c : Int)) := by omega
    cases ao with
    | none => simp [Instr.slice, run_underlying Tryd.underlying75, Instr.sliceBounds, Instr.sliceBound, asIntOf, hz, a1, h]
    | some a => simp [Instr.slice, run_underlying Tryd.underlying75, Instr.sliceBounds, Instr.sliceBound, asIntOf, hz, a1, h, Addr.add]
  go_enter Tryd.func52, Tryd.ntmps52
  go_wp2
  go_ret
  exact ⟨rfl, rfl⟩

abbrev rowEn (ao : Option Addr) (c : Nat) (xs : List En) : HProp := row 63 3 (.slice ao xs.length c) xs.length (xs.flatMap enC)
theorem info_en : elemInfo Tryd.prog 63 = some (some 3, 3, 40) := by kernel_rfl
theorem zs_en : zeroSize Tryd.prog 63 = some 3 := by kernel_rfl
theorem zs_st : zeroSize Tryd.prog 9 = some 1 := by kernel_rfl
def boO (bo : Nat) (ao : Option Addr) (n c : Nat) : HProp := pt bo (.cells #[.slice ao n c] 22)
def boW (bo bw : Nat) : HProp := pt bw (.cells #[.func (.func 51) #[] #[.pointer (some ⟨bo, 0, none⟩), .pointer (some ⟨bw, 0, none⟩)]] 97)
/-- the contract of the walk through a tree, so deep -/
def WalkC (bo bw d : Nat) : Prop := ∀ (t : Tr), Tr.Wf d t → ∀ (kv : Value) (q : List (List UInt8)) (an : Option Addr) (cn : Nat) (lb : List HProp) (pre : List En) (ao : Option Addr) (co : Nat) (w : World), KidsAt lb kv t.kids → q.length ≤ cn → q.length + d ≤ 100 → (∀ x ∈ q, x.length ≤ 600) →
  Knows lb (reads (.slice an q.length cn) q.length (q.map strv)) → pre.length + (entT d q t).length ≤ 1000000 → Ent (boO bo ao pre.length co :: boW bo bw :: rowEn ao co pre :: lb) w →
  Calls Tryd.prog 51 #[nodeV t kv, .slice an q.length cn, .pointer (some ⟨bo, 0, none⟩), .pointer (some ⟨bw, 0, none⟩)] w
    (Ret fun _ w' => ∃ ao' co', Ent (boO bo ao' (pre ++ entT d q t).length co' :: boW bo bw :: rowEn ao' co' (pre ++ entT d q t) :: lb) w')
set_option maxRecDepth 100000 in
theorem walk_none {bo bw : Nat} {t : Tr} (h : t.kids = []) {kv : Value} {an : Option Addr} {n cn : Nat} {lb : List HProp} {L : List HProp} {w : World} (hkv : KidsAt lb kv t.kids) (hE : Ent L w) :
    Calls Tryd.prog 51 #[nodeV t kv, .slice an n cn, .pointer (some ⟨bo, 0, none⟩), .pointer (some ⟨bw, 0, none⟩)] w (Ret fun _ w' => Ent L w') := by
  obtain ⟨td, tb, ks⟩ := t
  obtain rfl : ks = [] := h
  obtain ⟨ao, c, vs, rfl, _⟩ := hkv.open
  simp only [nodeV, Tr.dir, Tr.data, Tr.kids, List.length_nil]
  go_enter Tryd.func51, Tryd.ntmps51
  go_wp2_with (first
    | go_skip
    | ((with_reducible (show Go.wpList _ _ _ (Go.Oper.mk _ (.box _ _) _ _ _ _ :: _) _ _)); refine wpl_box hE rfl rfl rfl ?_; clear hE; intro b4 w hE; simp only [Act.eval, Act.put, List.setIfInBounds_toArray, List.set_cons_zero, List.set_cons_succ, getD_lit, List.getD_cons_succ, List.getD_cons_zero, Value.cells] at hE)
    | ((with_reducible (show Go.wpList _ _ _ (Go.Oper.mk _ (.load 23 _) _ _ _ _ :: _) _ _)); refine wpl_load1 hE 0 rfl rfl rfl rfl (by simp [go_sem]) rfl ?_))
  go_loopw [12] (fun i wr => i = .int .i64 0 ∧ Ent L wr) (fun _ _ => 0)
  case atStart => exact ⟨rfl, hE.tail⟩
  case round =>
    clear hE
    obtain ⟨rfl, hE⟩ := hrel
    go_wp2
    refine bodyPost_ret (results_none rfl _ _ _) rfl ?_
    exact ⟨_, rfl, hE⟩

def WkRel (bo bw d : Nat) (q : List (List UInt8)) (ks : List (List UInt8 × Tr)) (pre : List En) (lb : List HProp) (i : Value) (wr : World) : Prop :=
  ∃ (k : Nat) (ao : Option Addr) (co : Nat) (out : List En), k ≤ ks.length ∧ i = .int .i64 k ∧ out = pre ++ (ks.take k).flatMap (fun x => entOf q x :: entT d (q ++ [x.1]) x.2) ∧ Ent (boO bo ao out.length co :: boW bo bw :: rowEn ao co out :: lb) wr
theorem Ent.dropLast {A B C D : HProp} {l : List HProp} {w : World} (h : Ent (A :: B :: C :: D :: l) w) : Ent (A :: B :: C :: l) w := h.erase 3
set_option maxRecDepth 100000 in
set_option maxHeartbeats 8000000 in
attribute [-go_sem] Instr.loadAt in
theorem walk_step {bo bw d : Nat} (IH : WalkC bo bw d) : WalkC bo bw (d + 1) := by
  intro t hw kv q an cn lb pre ao0 co0 w hkv hcn hqd hq6 hn hbig hE
  obtain ⟨td, tb, ks⟩ := t
  have hk6 : ks.length ≤ 6 := hw.2.2.2.1
  have hwk := hw.2.2.2.2.2
  obtain ⟨ak, ck, vs, rfl, hc, hl, hkk, hks, hone⟩ := hkv.open
  replace hl : vs.length = ks.length := hl
  replace hkk : Knows lb (reads (.slice ak ks.length ck) ks.length (kCs ks vs)) := hkk
  replace hks : ∀ (i : Nat) (h : i < ks.length) (h' : i < vs.length), KidsAt lb vs[i] ks[i].2.kids := hks
  have hent : entT (d + 1) q (.nd td tb ks) = ks.flatMap fun x => entOf q x :: entT d (q ++ [x.1]) x.2 := rfl
  rw [hent] at hbig ⊢
  simp only [nodeV, Tr.dir, Tr.data, Tr.kids] at *
  clear hone hkv hw hent
  unfold boO boW at hE ⊢
  go_enter Tryd.func51, Tryd.ntmps51
  go_wp2_with (first
    | go_skip
    | ((with_reducible (show Go.wpList _ _ _ (Go.Oper.mk _ (.box _ _) _ _ _ _ :: _) _ _)); refine wpl_box hE rfl rfl rfl ?_; clear hE; intro b4 w hE; simp only [Act.eval, Act.put, List.setIfInBounds_toArray, List.set_cons_zero, List.set_cons_succ, getD_lit, List.getD_cons_succ, List.getD_cons_zero, Value.cells] at hE)
    | ((with_reducible (show Go.wpList _ _ _ (Go.Oper.mk _ (.load 23 _) _ _ _ _ :: _) _ _)); refine wpl_load1 hE 0 rfl rfl rfl rfl (by simp [go_sem]) rfl ?_))
  replace hE := hE.tail
  go_loopw [12] (fun i wr => WkRel bo bw d q ks pre lb i wr) (fun i _ => ks.length - (intOf i).toNat)
  case atStart => exact ⟨0, ao0, co0, pre, Nat.zero_le _, rfl, by simp, hE⟩
  case round =>
    clear hE
    obtain ⟨k, ao, co, out, hkn, rfl, hout, hE⟩ := hrel
    by_cases hlt : k < ks.length
    · obtain ⟨b, off, rfl, hz⟩ := kids_at hl (hkk _ hE.tail.tail.tail) hlt
      clear hz
      have hL := SL.hid (show ∀ W, Ent lb W → ∀ j v, (kC ks[k] (vs[k]'(by omega)))[j]? = some v → W.cell? ⟨b, off + k * 4 + j, none⟩ = some v from fun W hW => by
        obtain ⟨b', off', e, h⟩ := kids_at hl (hkk _ hW) hlt
        cases e
        exact h)
      have hkid := hks k hlt (by omega)
      have hwx := hwk _ (List.getElem_mem hlt)
      have htake := List.take_succ_eq_append_getElem hlt
      have hlen2 : out.length + (entOf q ks[k] :: entT d (q ++ [ks[k].1]) ks[k].2).length ≤ 1000000 := by
        have e : ks = ks.take k ++ ks[k] :: ks.drop (k + 1) := by rw [← List.drop_eq_getElem_cons hlt, List.take_append_drop]
        have h2 : ((ks.take k).flatMap (fun x => entOf q x :: entT d (q ++ [x.1]) x.2)).length + (entOf q ks[k] :: entT d (q ++ [ks[k].1]) ks[k].2).length ≤ (ks.flatMap (fun x => entOf q x :: entT d (q ++ [x.1]) x.2)).length := by
          conv => rhs; rw [e, List.flatMap_append, List.flatMap_cons, List.length_append, List.length_append]
          omega
        rw [hout, List.length_append]
        omega
      have hnx := (name_len hwx.1).2
      have Hout := SL.hid (show (out ++ [entOf q ks[k]]) ++ entT d (q ++ [ks[k].1]) ks[k].2 = pre ++ (ks.take (k + 1)).flatMap (fun x => entOf q x :: entT d (q ++ [x.1]) x.2) from by
        rw [htake, List.flatMap_append, hout]
        simp [List.append_assoc])
      obtain ⟨kvp, hkvp⟩ : ∃ x, vs[k]'(by omega) = x := ⟨_, rfl⟩
      rw [hkvp] at hL hkid
      have Hv1 := SL.hid (show kvp.oneCell' = true from by obtain ⟨a1, a2, e⟩ := hkid.slice; rw [e]; rfl)
      clear hkvp htake hout
      generalize ks[k] = x at *
      obtain ⟨xn, xt⟩ := x
      simp only at hkid hwx hnx Hout hlen2
      have Hlen2 := SL.hid hlen2
      have hqx : ∀ y ∈ q ++ [xn], y.length ≤ 600 := fun y hy => by
        rcases List.mem_append.1 hy with h | h
        · exact hq6 y h
        · rw [List.mem_singleton.1 h]; omega
      have Hqx := SL.hid hqx
      have HI := SL.hid (fun (an : Option Addr) (cn : Nat) (lb' : List HProp) (out' : List En) (ao : Option Addr) (co : Nat) (w : World) (hkv : KidsAt lb' kvp xt.kids) (hcn : (q ++ [xn]).length ≤ cn) (hn : Knows lb' (reads (.slice an (q ++ [xn]).length cn) (q ++ [xn]).length ((q ++ [xn]).map strv))) (hb : out'.length + (entT d (q ++ [xn]) xt).length ≤ 1000000) (hE : Ent (boO bo ao out'.length co :: boW bo bw :: rowEn ao co out' :: lb') w) =>
        IH xt hwx.2 kvp (q ++ [xn]) an cn lb' out' ao co w hkv hcn (by simp; omega) hqx hn hb hE)
      have HJ := SL.hid (fun (ao : Option Addr) (c : Nat) (hc : (q ++ [xn]).length ≤ c) (l : List HProp) (w : World) (hE : Ent l w) (hk : Knows l (reads (.slice ao (q ++ [xn]).length c) (q ++ [xn]).length ((q ++ [xn]).map strv))) => Join_any (by simp; omega) hqx hc hE hk)
      have hql : (q ++ [xn]).length = q.length + 1 := by simp
      have hqm : (q ++ [xn]).map strv = q.map strv ++ [strv xn] := by simp
      rw [hql, hqm] at HI HJ
      have HN := SL.hid (show Knows lb (reads (.slice an q.length q.length) q.length (q.map strv)) from fun w h => reads_cap (hn w h) _)
      have Hcn := SL.hid hcn
      have Hql := SL.hid (show q.length ≤ 100 from by omega)
      have hCl := fun w => Clip_any an q.length cn hcn w
      simp only [nodeV] at HI
      generalize hp : joinP (q ++ [xn]) = jp at *
      have Hp := SL.hid hp
      clear hp hql hqm hqx hn hcn hqd hlen2 hwx hbig
      unfold boO boW at HI hE
      have He := SL.hid (show entOf q (xn, xt) = ⟨jp, xt.dir, xt.data⟩ from by rw [entOf]; simp only [Hp.out])
      as_aux_lemma =>
      go_wp2_with (first
        | go_skip
        | ((with_reducible (show Go.wpList _ _ _ (Go.Oper.mk _ (.load 67 _) _ _ _ _ :: _) _ _)); refine wpl_loadC rfl rfl rfl Tryd.isAgg67 Tryd.sizeOf67 (kC (xn, xt) kvp) rfl (fun j v hv => by rw [Addr.add_lit]; exact hL.out _ (hE.suf sfx) j v hv) ?_)
        | ((with_reducible (show Go.wpList _ _ _ (Go.Oper.mk _ (.alloc 67) _ _ _ _ :: _) _ _)); refine wpl_allocN hE rfl rfl (n := 4) (by kernel_rfl) ?_; clear hE; intro b7 cs w1 hq hE)
        | ((with_reducible (show Go.wpList _ _ _ (Go.Oper.mk _ (.store 67 _ _) _ _ _ _ :: _) _ _)); refine wpl_storeN hE 0 rfl rfl rfl rfl (xs := [.string ⟨xn.toArray⟩, .bool xt.dir, .string ⟨xt.data.toArray⟩, kvp]) rfl Tryd.sizeOf67 rfl (by simp [Value.oneCell']; have := Hv1.out; simpa [Value.oneCell'] using this) hq ?_; clear hE hq; intro w2 hE; simp only [List.set_cons_zero] at hE))
      refine wp_region_held_drew (S := (fun w' => ((Instr.loadAt 9 (.pointer (some ⟨b7, 0, none⟩))).run Tryd.prog w' = .ok (.string ⟨xn.toArray⟩) w'))) (by kernel_rfl) (atVm hE.drew (by repeat (first | exact List.Mem.head _ | refine List.Mem.tail _ ?_)) (by simp [go_sem]) rfl) (fun hS => ?_)
      refine takeW 0 ⟨some 16, .move (.tmp 1), _, _, _, none⟩ ?_ (.inl ⟨by rfl, ?_⟩) hS ?_; rotate_left; · (intro _ _; go_simp; (try with_reducible rfl))
      try simp only [Act.put, sb, s0, sz]
      refine takeW 2 ⟨some 18, .fieldAddr 67 (.tmp 7) 0, _, _, _, none⟩ ?_ (.inl ⟨by rfl, ?_⟩) hS ?_; rotate_left; · (intro _ _; go_simp; (try with_reducible rfl))
      try simp only [Act.put, sb, s0, sz]
      refine takeW 3 ⟨some 19, .load 9 (.tmp 18), _, _, _, none⟩ ?_ (.inl ⟨by rfl, ?_⟩) hS ?_; rotate_left; · (intro w hSw; (try dsimp only at hSw); go_simp; (try with_reducible rfl))
      try simp only [Act.put, sb, s0, sz]
      refine wpAnyH_ready (rs := [1, 4]) (by kernel_rfl) (by simp) ?_
      refine (AllReadyH.cons (o := ⟨some 17, .call { callee := .value (.func 52), args := #[.tmp 16], argTypes := #[75] }, _, _, _, none⟩) rfl (fun K hK => ?_) (AllReadyH.cons (o := ⟨some 20, .buildSlice 75 1 #[(0, .tmp 19)], _, _, _, none⟩) rfl (fun K hK => ?_) AllReadyH.nil))
      focus
        (go_simp; refine (hCl _).mono ?_; rintro e w3 ⟨rfl, rfl⟩)
        refine hK.out _ _ (by first | exact (atVm hB (by repeat (first | exact List.Mem.head _ | refine List.Mem.tail _ ?_)) (by simp [go_sem]) rfl) | exact (atVm hE.drew (by repeat (first | exact List.Mem.head _ | refine List.Mem.tail _ ?_)) (by simp [go_sem]) rfl)) (fun hS => ?_)
        clear hK K
        try simp only [Act.put, sb, s0, sz]
        refine wpAnyH_ready (rs := [4]) (by kernel_rfl) (by simp) ?_
        refine (AllReadyH.cons (o := ⟨some 20, .buildSlice 75 1 #[(0, .tmp 19)], _, _, _, none⟩) rfl (fun K hK => ?_) AllReadyH.nil)
        (go_simp; have hB := hE.drew.alloc (.cells #[.string ⟨xn.toArray⟩] 9))
        refine hK.out _ _ (atVm hB (by repeat (first | exact List.Mem.head _ | refine List.Mem.tail _ ?_)) (by simp [go_sem]) rfl) (fun hS => ?_)
        clear hK K
        try simp only [Act.put, sb, s0, sz]
        refine wpAnyH_ready (rs := [5]) (by kernel_rfl) (by simp) ?_
        refine (AllReadyH.cons (o := ⟨some 21, .call { callee := .builtin .append, args := #[.tmp 17, .tmp 20], argTypes := #[75, 75] }, _, _, _, none⟩) rfl (fun K hK => ?_) AllReadyH.nil)
        (refine step_appendFull hB rfl (by rfl) (by rfl) (by rfl) Tryd.underlying75 info_str (by decide) (HN.out _ (hB.suf sfx)) (by simp) (m := 1) (news := [strv xn]) (reads_pt hB 0 rfl (off := 0) (fun j u hu => by rw [Nat.zero_add]; simpa [strv] using hu)) rfl (by decide) (by simp [strv, Value.oneCell']) (by have := Hql.out; omega) (by have := Hql.out; omega) ?_; intro aa ca w5 hA)
        refine hK.out _ _ (atVm hA (by repeat (first | exact List.Mem.head _ | refine List.Mem.tail _ ?_)) (by simp [go_sem]) rfl) (fun hS => ?_)
        clear hK K
        try simp only [Act.put, sb, s0, sz]
        refine takeW 6 ⟨some 8, .assign (.tmp 21), _, _, _, none⟩ ?_ (.inl ⟨by rfl, ?_⟩) hS ?_; rotate_left; · (intro _ _; go_simp; (try with_reducible rfl))
        try simp only [Act.put, sb, s0, sz]
        refine wpAnyH_done (by kernel_rfl) ?_ _
      rotate_right
      focus
        (go_simp; have hB := hE.drew.alloc (.cells #[.string ⟨xn.toArray⟩] 9))
        refine hK.out _ _ (atVm hB (by repeat (first | exact List.Mem.head _ | refine List.Mem.tail _ ?_)) (by simp [go_sem]) rfl) (fun hS => ?_)
        clear hK K
        try simp only [Act.put, sb, s0, sz]
        refine wpAnyH_ready (rs := [1]) (by kernel_rfl) (by simp) ?_
        refine (AllReadyH.cons (o := ⟨some 17, .call { callee := .value (.func 52), args := #[.tmp 16], argTypes := #[75] }, _, _, _, none⟩) rfl (fun K hK => ?_) AllReadyH.nil)
        (go_simp; refine (hCl _).mono ?_; rintro e w3 ⟨rfl, rfl⟩)
        refine hK.out _ _ (by first | exact (atVm hB (by repeat (first | exact List.Mem.head _ | refine List.Mem.tail _ ?_)) (by simp [go_sem]) rfl) | exact (atVm hE.drew (by repeat (first | exact List.Mem.head _ | refine List.Mem.tail _ ?_)) (by simp [go_sem]) rfl)) (fun hS => ?_)
        clear hK K
        try simp only [Act.put, sb, s0, sz]
        refine wpAnyH_ready (rs := [5]) (by kernel_rfl) (by simp) ?_
        refine (AllReadyH.cons (o := ⟨some 21, .call { callee := .builtin .append, args := #[.tmp 17, .tmp 20], argTypes := #[75, 75] }, _, _, _, none⟩) rfl (fun K hK => ?_) AllReadyH.nil)
        (refine step_appendFull hB rfl (by rfl) (by rfl) (by rfl) Tryd.underlying75 info_str (by decide) (HN.out _ (hB.suf sfx)) (by simp) (m := 1) (news := [strv xn]) (reads_pt hB 0 rfl (off := 0) (fun j u hu => by rw [Nat.zero_add]; simpa [strv] using hu)) rfl (by decide) (by simp [strv, Value.oneCell']) (by have := Hql.out; omega) (by have := Hql.out; omega) ?_; intro aa ca w5 hA)
        refine hK.out _ _ (atVm hA (by repeat (first | exact List.Mem.head _ | refine List.Mem.tail _ ?_)) (by simp [go_sem]) rfl) (fun hS => ?_)
        clear hK K
        try simp only [Act.put, sb, s0, sz]
        refine takeW 6 ⟨some 8, .assign (.tmp 21), _, _, _, none⟩ ?_ (.inl ⟨by rfl, ?_⟩) hS ?_; rotate_left; · (intro _ _; go_simp; (try with_reducible rfl))
        try simp only [Act.put, sb, s0, sz]
        refine wpAnyH_done (by kernel_rfl) ?_ _
      all_goals
        replace hE := hA.erase 1
        clear hA hB hS
        simp only [List.eraseIdx_cons_succ, List.eraseIdx_cons_zero] at hE
        obtain ⟨g, rfl, hca, _⟩ := hE.rowIs 0 rfl (by omega)
        have Hca := SL.hid hca
        clear hca
        go_wp2_with (first | go_skip)
        refine wp_region_held_drew (S := (fun w' => ((Instr.loadAt 4 (.pointer (some ⟨b7, 1, none⟩))).run Tryd.prog w' = .ok (.bool xt.dir) w') ∧ ((Instr.loadAt 9 (.pointer (some ⟨b7, 2, none⟩))).run Tryd.prog w' = .ok (.string ⟨xt.data.toArray⟩) w'))) (by kernel_rfl) ⟨(atVm hE.drew (by repeat (first | exact List.Mem.head _ | refine List.Mem.tail _ ?_)) (by simp [go_sem]) rfl), (atVm hE.drew (by repeat (first | exact List.Mem.head _ | refine List.Mem.tail _ ?_)) (by simp [go_sem]) rfl)⟩ (fun hS => ?_)
        refine takeW 1 ⟨some 23, .move (.tmp 8), _, _, _, none⟩ ?_ (.inl ⟨by rfl, ?_⟩) hS ?_; rotate_left; · (intro _ _; go_simp; (try with_reducible rfl))
        try simp only [Act.put, sb, s0, sz]
        refine takeW 3 ⟨some 25, .fieldAddr 67 (.tmp 7) 1, _, _, _, none⟩ ?_ (.inl ⟨by rfl, ?_⟩) hS ?_; rotate_left; · (intro _ _; go_simp; (try with_reducible rfl))
        try simp only [Act.put, sb, s0, sz]
        refine takeW 4 ⟨some 26, .fieldAddr 25 (.tmp 25) 0, _, _, _, none⟩ ?_ (.inl ⟨by rfl, ?_⟩) hS ?_; rotate_left; · (intro _ _; go_simp; (try with_reducible rfl))
        try simp only [Act.put, sb, s0, sz]
        refine takeW 5 ⟨some 27, .load 4 (.tmp 26), _, _, _, none⟩ ?_ (.inl ⟨by rfl, ?_⟩) hS ?_; rotate_left; · (intro w hSw; (try dsimp only at hSw); go_simp; (try with_reducible rfl))
        try simp only [Act.put, sb, s0, sz]
        refine takeW 6 ⟨some 28, .fieldAddr 67 (.tmp 7) 1, _, _, _, none⟩ ?_ (.inl ⟨by rfl, ?_⟩) hS ?_; rotate_left; · (intro _ _; go_simp; (try with_reducible rfl))
        try simp only [Act.put, sb, s0, sz]
        refine takeW 7 ⟨some 29, .fieldAddr 25 (.tmp 28) 1, _, _, _, none⟩ ?_ (.inl ⟨by rfl, ?_⟩) hS ?_; rotate_left; · (intro _ _; go_simp; (try with_reducible rfl))
        try simp only [Act.put, sb, s0, sz]
        refine takeW 8 ⟨some 30, .load 9 (.tmp 29), _, _, _, none⟩ ?_ (.inl ⟨by rfl, ?_⟩) hS ?_; rotate_left; · (intro w hSw; (try dsimp only at hSw); go_simp; (try with_reducible rfl))
        try simp only [Act.put, sb, s0, sz]
        refine wpAnyH_ready (rs := [0, 2]) (by kernel_rfl) (by simp) ?_
        refine (AllReadyH.cons (o := ⟨some 22, .load 22 (.tmp 2), _, _, _, none⟩) rfl (fun K hK => ?_) (AllReadyH.cons (o := ⟨some 24, .call { callee := .value (.func 53), args := #[.tmp 23], argTypes := #[75] }, _, _, _, none⟩) rfl (fun K hK => ?_) AllReadyH.nil))
        focus
          (first | refine step_load1 hB 3 rfl (by rfl) (by rfl) (by rfl) (by simp [go_sem]) rfl ?_ | refine step_load1 hJ 2 rfl (by rfl) (by rfl) (by rfl) (by simp [go_sem]) rfl ?_ | refine step_load1 hE.drew 2 rfl (by rfl) (by rfl) (by rfl) (by simp [go_sem]) rfl ?_)
          refine hK.out _ _ (by first | exact ⟨(atVm hB (by repeat (first | exact List.Mem.head _ | refine List.Mem.tail _ ?_)) (by simp [go_sem]) rfl), (atVm hB (by repeat (first | exact List.Mem.head _ | refine List.Mem.tail _ ?_)) (by simp [go_sem]) rfl)⟩ | exact ⟨(atVm hJ (by repeat (first | exact List.Mem.head _ | refine List.Mem.tail _ ?_)) (by simp [go_sem]) rfl), (atVm hJ (by repeat (first | exact List.Mem.head _ | refine List.Mem.tail _ ?_)) (by simp [go_sem]) rfl)⟩ | exact ⟨(atVm hE.drew (by repeat (first | exact List.Mem.head _ | refine List.Mem.tail _ ?_)) (by simp [go_sem]) rfl), (atVm hE.drew (by repeat (first | exact List.Mem.head _ | refine List.Mem.tail _ ?_)) (by simp [go_sem]) rfl)⟩) (fun hS => ?_)
          clear hK K
          try simp only [Act.put, sb, s0, sz]
          refine wpAnyH_ready (rs := [2]) (by kernel_rfl) (by simp) ?_
          refine (AllReadyH.cons (o := ⟨some 24, .call { callee := .value (.func 53), args := #[.tmp 23], argTypes := #[75] }, _, _, _, none⟩) rfl (fun K hK => ?_) AllReadyH.nil)
          (go_simp; refine (HJ.out _ _ Hca.out _ _ hE.drew (fun w h => reads_row h 0 rfl)).mono ?_; rintro e w6 ⟨v, rfl, rfl, hJ⟩)
          refine hK.out _ _ ⟨(atVm hJ (by repeat (first | exact List.Mem.head _ | refine List.Mem.tail _ ?_)) (by simp [go_sem]) rfl), (atVm hJ (by repeat (first | exact List.Mem.head _ | refine List.Mem.tail _ ?_)) (by simp [go_sem]) rfl)⟩ (fun hS => ?_)
          clear hK K
          try simp only [Act.put, sb, s0, sz]
          refine takeW 9 ⟨some 31, .build 63 #[(0, .tmp 24), (1, .tmp 27), (2, .tmp 30)], _, _, _, none⟩ ?_ (.inl ⟨by rfl, ?_⟩) hS ?_; rotate_left; · (intro _ _; go_simp; (try with_reducible rfl))
          try simp only [Act.put, sb, s0, sz]
          refine wpAnyH_ready (rs := [10]) (by kernel_rfl) (by simp) ?_
          refine (AllReadyH.cons (o := ⟨some 32, .buildSlice 22 1 #[(0, .tmp 31)], _, _, _, none⟩) rfl (fun K hK => ?_) AllReadyH.nil)
          (refine step_build1 hJ rfl (by rfl) (xs := enC ⟨jp, xt.dir, xt.data⟩) (by rfl) Tryd.underlying22 zs_en Tryd.sizeOf63 (by decide) (by decide) rfl ?_; intro b9 w7 hB)
          refine hK.out _ _ ⟨(atVm hB (by repeat (first | exact List.Mem.head _ | refine List.Mem.tail _ ?_)) (by simp [go_sem]) rfl), (atVm hB (by repeat (first | exact List.Mem.head _ | refine List.Mem.tail _ ?_)) (by simp [go_sem]) rfl)⟩ (fun hS => ?_)
          clear hK K
          try simp only [Act.put, sb, s0, sz]
          refine wpAnyH_ready (rs := [11]) (by kernel_rfl) (by simp) ?_
          refine (AllReadyH.cons (o := ⟨some 33, .call { callee := .builtin .append, args := #[.tmp 22, .tmp 32], argTypes := #[22, 22] }, _, _, _, none⟩) rfl (fun K hK => ?_) AllReadyH.nil)
          (refine step_appendG hB 5 rfl rfl (by rfl) (by rfl) (by rfl) Tryd.underlying22 info_en (by decide) (m := 1) (news := enC ⟨jp, xt.dir, xt.data⟩) (reads_pt hB 0 rfl (off := 0) (fun j u hu => by rw [Nat.zero_add, List.getElem?_toArray]; exact hu)) rfl (enC_one _) (by have := Hlen2.out; simp at this; omega) (by have := Hlen2.out; simp at this; omega) ?_; intro ao' c' w8 hC; simp only [List.set_cons_zero, List.set_cons_succ] at hC)
          refine hK.out _ _ ⟨(atVm hC (by repeat (first | exact List.Mem.head _ | refine List.Mem.tail _ ?_)) (by simp [go_sem]) rfl), (atVm hC (by repeat (first | exact List.Mem.head _ | refine List.Mem.tail _ ?_)) (by simp [go_sem]) rfl)⟩ (fun hS => ?_)
          clear hK K
          try simp only [Act.put, sb, s0, sz]
          refine wpAnyH_ready (rs := [12]) (by kernel_rfl) (by simp) ?_
          refine (AllReadyH.cons (o := ⟨none, .store 22 (.tmp 2) (.tmp 33), _, _, _, none⟩) rfl (fun K hK => ?_) AllReadyH.nil)
          (refine step_setC hC 3 rfl (by rfl) (by rfl) (by rfl) (v := .slice ao' (out.length + 1) c') (by rfl) (by first | (simp [go_sem]; done) | (simp [go_sem]; rfl)) rfl rfl (by simp) ?_; intro w9 hD; simp only [List.set_cons_zero, List.set_cons_succ] at hD)
          refine hK.out _ _ ⟨(atVm hD (by repeat (first | exact List.Mem.head _ | refine List.Mem.tail _ ?_)) (by simp [go_sem]) rfl), (atVm hD (by repeat (first | exact List.Mem.head _ | refine List.Mem.tail _ ?_)) (by simp [go_sem]) rfl)⟩ (fun hS => ?_)
          clear hK K
          try simp only [Act.put, sb, s0, sz]
          refine wpAnyH_done (by kernel_rfl) ?_ _
        rotate_right
        focus
          (go_simp; refine (HJ.out _ _ Hca.out _ _ hE.drew (fun w h => reads_row h 0 rfl)).mono ?_; rintro e w6 ⟨v, rfl, rfl, hJ⟩)
          refine hK.out _ _ ⟨(atVm hJ (by repeat (first | exact List.Mem.head _ | refine List.Mem.tail _ ?_)) (by simp [go_sem]) rfl), (atVm hJ (by repeat (first | exact List.Mem.head _ | refine List.Mem.tail _ ?_)) (by simp [go_sem]) rfl)⟩ (fun hS => ?_)
          clear hK K
          try simp only [Act.put, sb, s0, sz]
          refine takeW 9 ⟨some 31, .build 63 #[(0, .tmp 24), (1, .tmp 27), (2, .tmp 30)], _, _, _, none⟩ ?_ (.inl ⟨by rfl, ?_⟩) hS ?_; rotate_left; · (intro _ _; go_simp; (try with_reducible rfl))
          try simp only [Act.put, sb, s0, sz]
          refine wpAnyH_ready (rs := [0, 10]) (by kernel_rfl) (by simp) ?_
          refine (AllReadyH.cons (o := ⟨some 22, .load 22 (.tmp 2), _, _, _, none⟩) rfl (fun K hK => ?_) (AllReadyH.cons (o := ⟨some 32, .buildSlice 22 1 #[(0, .tmp 31)], _, _, _, none⟩) rfl (fun K hK => ?_) AllReadyH.nil))
          focus
            (first | refine step_load1 hB 3 rfl (by rfl) (by rfl) (by rfl) (by simp [go_sem]) rfl ?_ | refine step_load1 hJ 2 rfl (by rfl) (by rfl) (by rfl) (by simp [go_sem]) rfl ?_ | refine step_load1 hE.drew 2 rfl (by rfl) (by rfl) (by rfl) (by simp [go_sem]) rfl ?_)
            refine hK.out _ _ (by first | exact ⟨(atVm hB (by repeat (first | exact List.Mem.head _ | refine List.Mem.tail _ ?_)) (by simp [go_sem]) rfl), (atVm hB (by repeat (first | exact List.Mem.head _ | refine List.Mem.tail _ ?_)) (by simp [go_sem]) rfl)⟩ | exact ⟨(atVm hJ (by repeat (first | exact List.Mem.head _ | refine List.Mem.tail _ ?_)) (by simp [go_sem]) rfl), (atVm hJ (by repeat (first | exact List.Mem.head _ | refine List.Mem.tail _ ?_)) (by simp [go_sem]) rfl)⟩ | exact ⟨(atVm hE.drew (by repeat (first | exact List.Mem.head _ | refine List.Mem.tail _ ?_)) (by simp [go_sem]) rfl), (atVm hE.drew (by repeat (first | exact List.Mem.head _ | refine List.Mem.tail _ ?_)) (by simp [go_sem]) rfl)⟩) (fun hS => ?_)
            clear hK K
            try simp only [Act.put, sb, s0, sz]
            refine wpAnyH_ready (rs := [10]) (by kernel_rfl) (by simp) ?_
            refine (AllReadyH.cons (o := ⟨some 32, .buildSlice 22 1 #[(0, .tmp 31)], _, _, _, none⟩) rfl (fun K hK => ?_) AllReadyH.nil)
            (refine step_build1 hJ rfl (by rfl) (xs := enC ⟨jp, xt.dir, xt.data⟩) (by rfl) Tryd.underlying22 zs_en Tryd.sizeOf63 (by decide) (by decide) rfl ?_; intro b9 w7 hB)
            refine hK.out _ _ ⟨(atVm hB (by repeat (first | exact List.Mem.head _ | refine List.Mem.tail _ ?_)) (by simp [go_sem]) rfl), (atVm hB (by repeat (first | exact List.Mem.head _ | refine List.Mem.tail _ ?_)) (by simp [go_sem]) rfl)⟩ (fun hS => ?_)
            clear hK K
            try simp only [Act.put, sb, s0, sz]
            refine wpAnyH_ready (rs := [11]) (by kernel_rfl) (by simp) ?_
            refine (AllReadyH.cons (o := ⟨some 33, .call { callee := .builtin .append, args := #[.tmp 22, .tmp 32], argTypes := #[22, 22] }, _, _, _, none⟩) rfl (fun K hK => ?_) AllReadyH.nil)
            (refine step_appendG hB 5 rfl rfl (by rfl) (by rfl) (by rfl) Tryd.underlying22 info_en (by decide) (m := 1) (news := enC ⟨jp, xt.dir, xt.data⟩) (reads_pt hB 0 rfl (off := 0) (fun j u hu => by rw [Nat.zero_add, List.getElem?_toArray]; exact hu)) rfl (enC_one _) (by have := Hlen2.out; simp at this; omega) (by have := Hlen2.out; simp at this; omega) ?_; intro ao' c' w8 hC; simp only [List.set_cons_zero, List.set_cons_succ] at hC)
            refine hK.out _ _ ⟨(atVm hC (by repeat (first | exact List.Mem.head _ | refine List.Mem.tail _ ?_)) (by simp [go_sem]) rfl), (atVm hC (by repeat (first | exact List.Mem.head _ | refine List.Mem.tail _ ?_)) (by simp [go_sem]) rfl)⟩ (fun hS => ?_)
            clear hK K
            try simp only [Act.put, sb, s0, sz]
            refine wpAnyH_ready (rs := [12]) (by kernel_rfl) (by simp) ?_
            refine (AllReadyH.cons (o := ⟨none, .store 22 (.tmp 2) (.tmp 33), _, _, _, none⟩) rfl (fun K hK => ?_) AllReadyH.nil)
            (refine step_setC hC 3 rfl (by rfl) (by rfl) (by rfl) (v := .slice ao' (out.length + 1) c') (by rfl) (by first | (simp [go_sem]; done) | (simp [go_sem]; rfl)) rfl rfl (by simp) ?_; intro w9 hD; simp only [List.set_cons_zero, List.set_cons_succ] at hD)
            refine hK.out _ _ ⟨(atVm hD (by repeat (first | exact List.Mem.head _ | refine List.Mem.tail _ ?_)) (by simp [go_sem]) rfl), (atVm hD (by repeat (first | exact List.Mem.head _ | refine List.Mem.tail _ ?_)) (by simp [go_sem]) rfl)⟩ (fun hS => ?_)
            clear hK K
            try simp only [Act.put, sb, s0, sz]
            refine wpAnyH_done (by kernel_rfl) ?_ _
          rotate_right
          focus
            (refine step_build1 hJ rfl (by rfl) (xs := enC ⟨jp, xt.dir, xt.data⟩) (by rfl) Tryd.underlying22 zs_en Tryd.sizeOf63 (by decide) (by decide) rfl ?_; intro b9 w7 hB)
            refine hK.out _ _ ⟨(atVm hB (by repeat (first | exact List.Mem.head _ | refine List.Mem.tail _ ?_)) (by simp [go_sem]) rfl), (atVm hB (by repeat (first | exact List.Mem.head _ | refine List.Mem.tail _ ?_)) (by simp [go_sem]) rfl)⟩ (fun hS => ?_)
            clear hK K
            try simp only [Act.put, sb, s0, sz]
            refine wpAnyH_ready (rs := [0]) (by kernel_rfl) (by simp) ?_
            refine (AllReadyH.cons (o := ⟨some 22, .load 22 (.tmp 2), _, _, _, none⟩) rfl (fun K hK => ?_) AllReadyH.nil)
            (first | refine step_load1 hB 3 rfl (by rfl) (by rfl) (by rfl) (by simp [go_sem]) rfl ?_ | refine step_load1 hJ 2 rfl (by rfl) (by rfl) (by rfl) (by simp [go_sem]) rfl ?_ | refine step_load1 hE.drew 2 rfl (by rfl) (by rfl) (by rfl) (by simp [go_sem]) rfl ?_)
            refine hK.out _ _ (by first | exact ⟨(atVm hB (by repeat (first | exact List.Mem.head _ | refine List.Mem.tail _ ?_)) (by simp [go_sem]) rfl), (atVm hB (by repeat (first | exact List.Mem.head _ | refine List.Mem.tail _ ?_)) (by simp [go_sem]) rfl)⟩ | exact ⟨(atVm hJ (by repeat (first | exact List.Mem.head _ | refine List.Mem.tail _ ?_)) (by simp [go_sem]) rfl), (atVm hJ (by repeat (first | exact List.Mem.head _ | refine List.Mem.tail _ ?_)) (by simp [go_sem]) rfl)⟩ | exact ⟨(atVm hE.drew (by repeat (first | exact List.Mem.head _ | refine List.Mem.tail _ ?_)) (by simp [go_sem]) rfl), (atVm hE.drew (by repeat (first | exact List.Mem.head _ | refine List.Mem.tail _ ?_)) (by simp [go_sem]) rfl)⟩) (fun hS => ?_)
            clear hK K
            try simp only [Act.put, sb, s0, sz]
            refine wpAnyH_ready (rs := [11]) (by kernel_rfl) (by simp) ?_
            refine (AllReadyH.cons (o := ⟨some 33, .call { callee := .builtin .append, args := #[.tmp 22, .tmp 32], argTypes := #[22, 22] }, _, _, _, none⟩) rfl (fun K hK => ?_) AllReadyH.nil)
            (refine step_appendG hB 5 rfl rfl (by rfl) (by rfl) (by rfl) Tryd.underlying22 info_en (by decide) (m := 1) (news := enC ⟨jp, xt.dir, xt.data⟩) (reads_pt hB 0 rfl (off := 0) (fun j u hu => by rw [Nat.zero_add, List.getElem?_toArray]; exact hu)) rfl (enC_one _) (by have := Hlen2.out; simp at this; omega) (by have := Hlen2.out; simp at this; omega) ?_; intro ao' c' w8 hC; simp only [List.set_cons_zero, List.set_cons_succ] at hC)
            refine hK.out _ _ ⟨(atVm hC (by repeat (first | exact List.Mem.head _ | refine List.Mem.tail _ ?_)) (by simp [go_sem]) rfl), (atVm hC (by repeat (first | exact List.Mem.head _ | refine List.Mem.tail _ ?_)) (by simp [go_sem]) rfl)⟩ (fun hS => ?_)
            clear hK K
            try simp only [Act.put, sb, s0, sz]
            refine wpAnyH_ready (rs := [12]) (by kernel_rfl) (by simp) ?_
            refine (AllReadyH.cons (o := ⟨none, .store 22 (.tmp 2) (.tmp 33), _, _, _, none⟩) rfl (fun K hK => ?_) AllReadyH.nil)
            (refine step_setC hC 3 rfl (by rfl) (by rfl) (by rfl) (v := .slice ao' (out.length + 1) c') (by rfl) (by first | (simp [go_sem]; done) | (simp [go_sem]; rfl)) rfl rfl (by simp) ?_; intro w9 hD; simp only [List.set_cons_zero, List.set_cons_succ] at hD)
            refine hK.out _ _ ⟨(atVm hD (by repeat (first | exact List.Mem.head _ | refine List.Mem.tail _ ?_)) (by simp [go_sem]) rfl), (atVm hD (by repeat (first | exact List.Mem.head _ | refine List.Mem.tail _ ?_)) (by simp [go_sem]) rfl)⟩ (fun hS => ?_)
            clear hK K
            try simp only [Act.put, sb, s0, sz]
            refine wpAnyH_done (by kernel_rfl) ?_ _
        all_goals
          clear hC hB hJ hE hS
          go_wp2_with (first
            | go_skip
            | ((with_reducible (show Go.wpList _ _ _ (Go.Oper.mk _ (.load 25 _) _ _ _ _ :: _) _ _)); refine wpl_loadA hD 2 rfl rfl rfl (off := 1) rfl Tryd.isAgg25 Tryd.sizeOf25 [.bool xt.dir, .string ⟨xt.data.toArray⟩, kvp] rfl (fun j hj => by match j, hj with | 0, _ => rfl | 1, _ => rfl | 2, _ => rfl) ?_)
            | ((with_reducible (show Go.wpList _ _ _ (Go.Oper.mk _ (.load _ (.tmp 3)) _ _ _ _ :: _) _ _)); refine wpl_load1 hD 4 rfl rfl rfl rfl (by simp [go_sem]) rfl ?_))
          have H := HI.out (some ⟨g, 0, none⟩) ca (row 9 1 (.slice (some ⟨g, 0, none⟩) (q.length + 1) ca) (q.length + 1) (q.map strv ++ [strv xn]) :: lb) (out ++ [entOf q (xn, xt)]) ao' c' _ (hkid.suf (List.suffix_cons _ _)) Hca.out (fun w h => reads_row h 0 rfl) (by have := Hlen2.out; simp at this ⊢; omega) (by have h := ((((hD.erase 0).erase 1).front 3 rfl).front 3 rfl).front 3 rfl; have e1 : (out ++ [entOf q (xn, xt)]).length = out.length + 1 := (by simp); have e2 : (out ++ [entOf q (xn, xt)]).flatMap enC = out.flatMap enC ++ enC ⟨jp, xt.dir, xt.data⟩ := (by rw [He.out]; simp); simp only [rowEn, e1, e2]; exact h)
          refine H.mono ?_
          clear H hD
          rintro e w10 ⟨v, rfl, ao2, co2, hF⟩
          go_wp2
          go_roundw
          case rel => exact ⟨k + 1, ao2, co2, _, hlt, by simp, Hout.out, Ent.dropLast hF⟩
          case measure => simp [intOf]; omega
    · obtain rfl : k = ks.length := by omega
      rw [List.take_length] at hout
      have Ho := SL.hid hout
      clear hout
      go_wp2
      refine bodyPost_ret (results_none rfl _ _ _) rfl ?_
      refine ⟨_, rfl, ao, co, ?_⟩
      rw [← Ho.out]
      exact hE
end Go.Proofs.YtcpgelpajppgdaaDoor
namespace Go.Proofs.YtcpgelpajppgdaaDoor
open Go.RowKit Go.SL

theorem walk_all (bo bw : Nat) : ∀ d, WalkC bo bw d
  | 0 => by
    intro t hw kv q an cn lb pre ao co w hkv hcn hqd hq6 hn hbig hE
    have hz : t.kids = [] := by cases t; exact hw.1
    refine (walk_none hz hkv hE).mono ?_
    rintro e w' ⟨v, rfl, h⟩
    refine ⟨v, rfl, ao, co, ?_⟩
    rw [entT_file hz, List.append_nil]
    exact h
  | d + 1 => walk_step (walk_all bo bw d)
set_option maxRecDepth 100000 in
set_option maxHeartbeats 2000000 in
attribute [-go_sem] Instr.loadAt in
theorem Entries_any {d : Nat} {t : Tr} (hw : Tr.Wf d t) (hd : d ≤ 100) {kv : Value} {l : List HProp} (hkv : KidsAt l kv t.kids) (hb : (entT d [] t).length ≤ 1000000) {w : World} (hE : Ent l w) :
    Calls Tryd.prog 23 #[nodeV t kv] w (Ret fun v w' => ∃ ao c m, v = .slice ao (entT d [] t).length c ∧ Ent (rowEn ao c (entT d [] t) :: (m ++ l)) w') := by
  have HW := SL.hid (fun (bo bw : Nat) (lb : List HProp) (w : World) (hkv : KidsAt lb kv t.kids) (hE : Ent (boO bo none 0 0 :: boW bo bw :: rowEn none 0 [] :: lb) w) =>
    walk_all bo bw d t hw kv [] none 0 lb [] none 0 w hkv (Nat.zero_le _) (by simpa using hd) (by simp) (fun _ _ => reads_nil 0 0 rfl _) (by simpa using hb) hE)
  simp only [List.length_nil, List.nil_append, nodeV] at HW
  unfold nodeV
  unfold boO boW at HW
  clear hb hw
  generalize entT d [] t = es at *
  go_enter Tryd.func23, Tryd.ntmps23
  go_wp2_with (first
    | go_skip
    | ((with_reducible (show Go.wpList _ _ _ (Go.Oper.mk _ (.box _ _) _ _ _ _ :: _) _ _)); refine wpl_box hE rfl rfl rfl ?_; clear hE; intro b1 w hE; simp only [Act.eval, Act.put, List.setIfInBounds_toArray, List.set_cons_zero, List.set_cons_succ, getD_lit, List.getD_cons_succ, List.getD_cons_zero, Value.cells] at hE)
    | ((with_reducible (show Go.wpList _ _ _ (Go.Oper.mk _ (.alloc 22) _ _ _ _ :: _) _ _)); refine wpl_alloc hE rfl rfl (by simp [go_sem]; rfl) ?_; clear hE; intro b3 w hE; simp only [Act.eval, Act.put, List.setIfInBounds_toArray, List.set_cons_zero, List.set_cons_succ, getD_lit, List.getD_cons_succ, List.getD_cons_zero, Value.cells] at hE)
    | ((with_reducible (show Go.wpList _ _ _ (Go.Oper.mk _ (.alloc 97) _ _ _ _ :: _) _ _)); refine wpl_alloc hE rfl rfl (by simp [go_sem]; rfl) ?_; clear hE; intro b4 w hE; simp only [Act.eval, Act.put, List.setIfInBounds_toArray, List.set_cons_zero, List.set_cons_succ, getD_lit, List.getD_cons_succ, List.getD_cons_zero, Value.cells] at hE)
    | ((with_reducible (show Go.wpList _ _ _ (Go.Oper.mk _ (.store _ _ _) _ _ _ _ :: _) _ _)); refine wpl_st1 hE 0 rfl rfl rfl rfl rfl (by first | (simp [go_sem]; done) | (simp [go_sem]; rfl)) rfl rfl (by simp) ?_; clear hE; intro w hE; simp only [Act.eval, Act.put, List.setIfInBounds_toArray, List.set_cons_zero, List.set_cons_succ, getD_lit, List.getD_cons_succ, List.getD_cons_zero, Value.cells] at hE)
    | ((with_reducible (show Go.wpList _ _ _ (Go.Oper.mk _ (.load 25 _) _ _ _ _ :: _) _ _)); refine wpl_loadA hE 2 rfl rfl rfl (off := 0) rfl Tryd.isAgg25 Tryd.sizeOf25 [.bool t.dir, .string ⟨t.data.toArray⟩, kv] rfl (fun j hj => by match j, hj with | 0, _ => rfl | 1, _ => rfl | 2, _ => rfl) ?_)
    | ((with_reducible (show Go.wpList _ _ _ (Go.Oper.mk _ (.load 97 _) _ _ _ _ :: _) _ _)); refine wpl_load1 hE 0 rfl rfl rfl rfl (by simp [go_sem]) rfl ?_))
  replace hE := ((hE.nil 63 3).front 1 rfl).front 2 rfl
  simp only [List.eraseIdx_cons_succ, List.eraseIdx_cons_zero] at hE
  refine (HW.out b3 b4 (pt b1 (.cells #[.bool t.dir, .string ⟨t.data.toArray⟩, kv] 25) :: l) _ (hkv.suf (List.suffix_cons _ _)) hE).mono ?_
  clear hE
  rintro e w9 ⟨v, rfl, ao, co, hE⟩
  go_wp2_with (first
    | go_skip
    | ((with_reducible (show Go.wpList _ _ _ (Go.Oper.mk _ (.load _ (.tmp 3)) _ _ _ _ :: _) _ _)); refine wpl_load1 hE 0 rfl rfl rfl rfl (by simp [go_sem]) rfl ?_))
  go_ret
  exact ⟨_, rfl, ao, co, [_, _, _], rfl, hE.front 2 rfl⟩
end Go.Proofs.YtcpgelpajppgdaaDoor
namespace Go.Proofs.YtcpgelpajppgdaaDoor
open Go.RowKit Go.SL

theorem eqEn (x : En) (w : World) : (Op.equalIn 10000 63 (.agg #[.string ⟨x.path.toArray⟩, .bool x.dir, .string ⟨x.data.toArray⟩]) (.agg #[.string ⟨x.path.toArray⟩, .bool x.dir, .string ⟨x.data.toArray⟩])).run Tryd.prog w = .ok true w := by
  have h := run_equalIn_agg (P := Tryd.prog) (w := w) 9999 63 #[.string ⟨x.path.toArray⟩, .bool x.dir, .string ⟨x.data.toArray⟩] #[.string ⟨x.path.toArray⟩, .bool x.dir, .string ⟨x.data.toArray⟩] (by kernel_rfl) (by kernel_rfl)
  refine h.trans ?_
  simp [go_sem]
/-- an entry of a row, read whole and in part -/
theorem load_en {b off c : Nat} {xs : List En} {w : World} (hr : reads (.slice (some ⟨b, off, none⟩) xs.length c) xs.length (xs.flatMap enC) w) {k : Nat} (hk : k < xs.length) :
    (Instr.loadAt 63 (.pointer (some ⟨b, off + k * 3, none⟩))).run Tryd.prog w = .ok (.agg #[.string ⟨xs[k].path.toArray⟩, .bool xs[k].dir, .string ⟨xs[k].data.toArray⟩]) w ∧
    (Instr.loadAt 9 (.pointer (some ⟨b, off + k * 3, none⟩))).run Tryd.prog w = .ok (.string ⟨xs[k].path.toArray⟩) w ∧
    (Instr.loadAt 4 (.pointer (some ⟨b, off + k * 3 + 1, none⟩))).run Tryd.prog w = .ok (.bool xs[k].dir) w ∧
    (Instr.loadAt 9 (.pointer (some ⟨b, off + k * 3 + 2, none⟩))).run Tryd.prog w = .ok (.string ⟨xs[k].data.toArray⟩) w := by
  obtain ⟨b', off', e, h⟩ := en_at hr hk
  cases e
  exact ⟨atCells Tryd.isAgg63 Tryd.sizeOf63 (enC xs[k]) rfl (fun j v hv => by rw [Addr.add_lit]; exact h j v hv), atCell (h 0 _ rfl) (by simp [go_sem]), atCell (h 1 _ rfl) (by simp [go_sem]), atCell (h 2 _ rfl) (by simp [go_sem])⟩
def GrRel (es : List En) (l : List HProp) (i : Value) (wr : World) : Prop :=
  ∃ k : Nat, k ≤ es.length ∧ i = .int .i64 k ∧ (∀ x ∈ es.take k, x.path.length ≤ 200 ∧ x.data.length ≤ 9000) ∧ Ent l wr
/-- is a row of entries too great for the law? -/
def great (es : List En) : Bool := decide (100 < es.length) || es.any fun x => decide (200 < x.path.length) || decide (9000 < x.data.length)
theorem great_not {es : List En} : great es = false ↔ es.length ≤ 100 ∧ ∀ x ∈ es, x.path.length ≤ 200 ∧ x.data.length ≤ 9000 := by
  simp only [great, Bool.or_eq_false_iff, decide_eq_false_iff_not, List.any_eq_false, Nat.not_lt, Bool.not_eq_true]
def GrPost (es : List En) (l : List HProp) (v : Value) (w' : World) : Prop := v = .bool (great es) ∧ Ent l w'
theorem GrPost.mk {es : List En} {l : List HProp} {w' : World} (b : Bool) (h : Ent l w') (h2 : great es = b) : GrPost es l (.bool b) w' := ⟨by rw [h2], h⟩
set_option maxRecDepth 100000 in
set_option maxHeartbeats 2000000 in
attribute [-go_sem] Instr.loadAt in
theorem Great_any {es : List En} {ao : Option Addr} {c : Nat} {l : List HProp} {w : World} (hk : Knows l (reads (.slice ao es.length c) es.length (es.flatMap enC))) (hE : Ent l w) :
    Calls Tryd.prog 28 #[.slice ao es.length c] w (Ret (GrPost es l)) := by
  cases h100 : decide ((100 : Int) < (es.length : Int)) with
  | true =>
    go_enter Tryd.func28, Tryd.ntmps28
    go_wp2
    refine bodyPost_ret (results_tmp rfl _ _ _) rfl ?_
    exact ⟨_, rfl, .mk true hE (by have := of_decide_eq_true h100; rw [great, decide_eq_true (by omega)]; rfl)⟩
  | false =>
    have hle : es.length ≤ 100 := by have := of_decide_eq_false h100; omega
    have Hle := SL.hid hle
    go_enter Tryd.func28, Tryd.ntmps28
    go_wp2
    clear h100
    go_loopw [3] (fun i wr => GrRel es l i wr) (fun i _ => es.length - (intOf i).toNat)
    case atStart => exact ⟨0, Nat.zero_le _, rfl, by simp, hE⟩
    case round =>
      clear hE
      obtain ⟨k, hkn, rfl, hin, hE⟩ := hrel
      have Hin := SL.hid hin
      clear hin
      by_cases hlt : k < es.length
      · obtain ⟨b, off, rfl, hz⟩ := en_at (hk _ hE) hlt
        clear hz
        have htk := SL.hid (List.take_succ_eq_append_getElem hlt)
        obtain ⟨hl0, hl1, hl2, hl3⟩ := load_en (hk _ hE) hlt
        clear hl0 hl2
        have Hmem := SL.hid (List.getElem_mem hlt)
        generalize es[k] = x at *
        obtain ⟨xp, xd, xb⟩ := x
        cases hp : decide ((200 : Int) < (xp.length : Int)) with
        | true =>
          go_wp2
          refine bodyPost_ret (results_tmp rfl _ _ _) rfl ?_
          exact ⟨_, rfl, .mk true hE (eq_true_of_ne_false fun h => by have := (great_not.1 h).2 _ Hmem.out; have := of_decide_eq_true hp; simp only at *; omega)⟩
        | false =>
          cases hd : decide ((9000 : Int) < (xb.length : Int)) with
          | true =>
            go_wp2
            refine bodyPost_ret (results_tmp rfl _ _ _) rfl ?_
            exact ⟨_, rfl, .mk true hE (eq_true_of_ne_false fun h => by have := (great_not.1 h).2 _ Hmem.out; have := of_decide_eq_true hd; simp only at *; omega)⟩
          | false =>
            go_wp2
            go_roundw
            case rel =>
              refine ⟨k + 1, hlt, by simp, ?_, hE⟩
              rw [htk.out]
              intro y hy
              rcases List.mem_append.1 hy with h | h
              · exact Hin.out y h
              · rw [List.mem_singleton.1 h]
                have := of_decide_eq_false hp
                have := of_decide_eq_false hd
                exact ⟨by simp only; omega, by simp only; omega⟩
            case measure => simp [intOf]; omega
      · obtain rfl : k = es.length := by omega
        go_wp2
        refine bodyPost_ret (results_tmp rfl _ _ _) rfl ?_
        exact ⟨_, rfl, .mk false hE (great_not.2 ⟨Hle.out, by have := Hin.out; rwa [List.take_length] at this⟩)⟩
set_option maxRecDepth 100000 in
set_option maxHeartbeats 2000000 in
attribute [-go_sem] Instr.loadAt Go.run_equalIn_agg in
theorem Row_same {es : List En} (hn : es.length ≤ 1000000) {ao bo : Option Addr} {c d : Nat} {l : List HProp} {w : World} (hk : Knows l (reads (.slice ao es.length c) es.length (es.flatMap enC))) (hk2 : Knows l (reads (.slice bo es.length d) es.length (es.flatMap enC))) (hE : Ent l w) :
    Calls Tryd.prog 22 #[.slice ao es.length c, .slice bo es.length d] w (Ret fun v w' => v = .bool true ∧ Ent l w') := by
  go_enter Tryd.func22, Tryd.ntmps22
  go_wp2
  go_loopw [5] (fun i wr => CntRel es.length l i wr) (fun i _ => es.length - (intOf i).toNat)
  case atStart => exact ⟨0, Nat.zero_le _, rfl, hE⟩
  case round =>
    clear hE
    obtain ⟨k, hkl, rfl, hE⟩ := hrel
    by_cases hlt : k < es.length
    · obtain ⟨b1, o1, rfl, hz⟩ := en_at (hk _ hE) hlt
      obtain ⟨b2, o2, rfl, hz2⟩ := en_at (hk2 _ hE) hlt
      clear hz hz2
      have f1 := SL.hid (show ∀ w, Ent l w → _ from fun w h => (load_en (hk w h) hlt).1)
      have f2 := SL.hid (show ∀ w, Ent l w → _ from fun w h => (load_en (hk2 w h) hlt).1)
      have hcm := fun w => eqEn es[k] w
      generalize es[k] = x at f1 f2 hcm
      obtain ⟨x1, x2, x3⟩ := x
      go_wp2
      refine wp_region_held_drew (S := (fun w' => ((Instr.loadAt 63 (.pointer (some ⟨b1, o1 + k * 3, none⟩))).run Tryd.prog w' = .ok (.agg #[.string ⟨x1.toArray⟩, .bool x2, .string ⟨x3.toArray⟩]) w') ∧ ((Instr.loadAt 63 (.pointer (some ⟨b2, o2 + k * 3, none⟩))).run Tryd.prog w' = .ok (.agg #[.string ⟨x1.toArray⟩, .bool x2, .string ⟨x3.toArray⟩]) w'))) (by kernel_rfl) ⟨(f1.out _ hE.drew), (f2.out _ hE.drew)⟩ (fun hS => ?_)
      refine takeW 0 ⟨some 17, .move (.tmp 0), _, _, _, none⟩ ?_ (.inl ⟨by rfl, ?_⟩) hS ?_; rotate_left; · (intro _ _; go_simp; (try with_reducible rfl))
      try simp only [Act.put, sb, s0, sz]
      refine takeW 1 ⟨some 18, .move (.tmp 5), _, _, _, none⟩ ?_ (.inl ⟨by rfl, ?_⟩) hS ?_; rotate_left; · (intro _ _; go_simp; (try with_reducible rfl))
      try simp only [Act.put, sb, s0, sz]
      refine takeW 2 ⟨some 19, .indexAddr 22 (.tmp 17) (.tmp 18), _, _, _, none⟩ ?_ (.inl ⟨by rfl, ?_⟩) hS ?_; rotate_left; · (intro _ _; go_simp; (try with_reducible rfl))
      try simp only [Act.put, sb, s0, sz]
      refine takeW 3 ⟨some 20, .load 63 (.tmp 19), _, _, _, none⟩ ?_ (.inl ⟨by rfl, ?_⟩) hS ?_; rotate_left; · (intro w hSw; (try dsimp only at hSw); go_simp; (try with_reducible rfl))
      try simp only [Act.put, sb, s0, sz]
      refine takeW 4 ⟨some 21, .move (.tmp 1), _, _, _, none⟩ ?_ (.inl ⟨by rfl, ?_⟩) hS ?_; rotate_left; · (intro _ _; go_simp; (try with_reducible rfl))
      try simp only [Act.put, sb, s0, sz]
      refine takeW 5 ⟨some 22, .move (.tmp 5), _, _, _, none⟩ ?_ (.inl ⟨by rfl, ?_⟩) hS ?_; rotate_left; · (intro _ _; go_simp; (try with_reducible rfl))
      try simp only [Act.put, sb, s0, sz]
      refine takeW 6 ⟨some 23, .indexAddr 22 (.tmp 21) (.tmp 22), _, _, _, none⟩ ?_ (.inl ⟨by rfl, ?_⟩) hS ?_; rotate_left; · (intro _ _; go_simp; (try with_reducible rfl))
      try simp only [Act.put, sb, s0, sz]
      refine takeW 7 ⟨some 24, .load 63 (.tmp 23), _, _, _, none⟩ ?_ (.inl ⟨by rfl, ?_⟩) hS ?_; rotate_left; · (intro w hSw; (try dsimp only at hSw); go_simp; (try with_reducible rfl))
      try simp only [Act.put, sb, s0, sz]
      refine takeW 8 ⟨some 25, .binOp .neq 63 (.tmp 20) (.tmp 24) 63, _, _, _, none⟩ ?_ (.inl ⟨by rfl, ?_⟩) hS ?_; rotate_left; · (intro _ _; go_simp; (try with_reducible rfl))
      try simp only [Act.put, sb, s0, sz]
      refine wpAnyH_done (by kernel_rfl) ?_ _
      go_wp2
      go_roundw
      case rel => exact ⟨k + 1, hlt, by first | rfl | simp, hE.drew⟩
      case measure => simp [intOf] <;> omega
    · obtain rfl : k = es.length := by omega
      go_wp2
      go_ret
      exact ⟨_, rfl, rfl, hE⟩
end Go.Proofs.YtcpgelpajppgdaaDoor
namespace Go.Proofs.YtcpgelpajppgdaaDoor
open Go.RowKit Go.SL

def chC (c : Ch) : List Value := [.string ⟨c.path.toArray⟩, .bool c.was.there, .bool c.was.dir, .string ⟨c.was.data.toArray⟩, .bool c.now.there, .bool c.now.dir, .string ⟨c.now.data.toArray⟩]
theorem chC_len (c : Ch) : (chC c).length = 7 := rfl
theorem chC_one (c : Ch) : ∀ u ∈ chC c, u.oneCell' = true := by simp [chC, Value.oneCell']
theorem chC_flat_len (xs : List Ch) : (xs.flatMap chC).length = xs.length * 7 := flatMap_len chC 7 chC_len xs
/-- where a change of a row lies -/
theorem ch_at {w : World} {ao : Option Addr} {c : Nat} {xs : List Ch} (hr : reads (.slice ao xs.length c) xs.length (xs.flatMap chC) w) {k : Nat} (hk : k < xs.length) : ∃ b off, ao = some ⟨b, off, none⟩ ∧ ∀ j v, (chC xs[k])[j]? = some v → w.cell? ⟨b, off + k * 7 + j, none⟩ = some v := by
  obtain ⟨b, off, rfl, hc⟩ := reads_form hr (by omega) (by rw [chC_flat_len]; omega)
  refine ⟨b, off, rfl, fun j v hv => ?_⟩
  rw [Nat.add_assoc]
  exact hc _ _ (flatMap_at chC 7 chC_len xs k j xs[k] v (List.getElem?_eq_getElem hk) hv)
def findI (l : List Ch) (p : List UInt8) : Int := match l.findIdx? (fun c => c.path == p) with
  | some i => (i : Int)
  | none => -1
theorem findI_at {l : List Ch} {p : List UInt8} {k : Nat} (hk : k < l.length) (h : ∀ (j : Nat) (hj : j < l.length), j < k → l[j].path ≠ p) (he : l[k].path = p) : findI l p = k := by
  have : l.findIdx? (fun c => c.path == p) = some k := by
    rw [List.findIdx?_eq_some_iff_getElem]
    exact ⟨hk, by simpa using he, fun j hj => by simpa using h j (by omega) hj⟩
  rw [findI, this]
theorem findI_none {l : List Ch} {p : List UInt8} (h : ∀ (j : Nat) (hj : j < l.length), j < l.length → l[j].path ≠ p) : findI l p = -1 := by
  have : l.findIdx? (fun c => c.path == p) = none := by
    rw [List.findIdx?_eq_none_iff]
    intro x hx
    obtain ⟨j, hj, rfl⟩ := List.getElem_of_mem hx
    simpa using h j hj hj
  rw [findI, this]
def FdRel (es : List Ch) (p : List UInt8) (l : List HProp) (i : Value) (wr : World) : Prop := ∃ k : Nat, k ≤ es.length ∧ i = .int .i64 k ∧ (∀ (j : Nat) (hj : j < es.length), j < k → es[j].path ≠ p) ∧ Ent l wr
set_option maxRecDepth 100000 in
set_option maxHeartbeats 2000000 in
theorem rfind_any {es : List Ch} {p : List UInt8} (hn : es.length ≤ 1000000) {ao : Option Addr} {c : Nat} {l : List HProp} {w : World} (hk : Knows l (reads (.slice ao es.length c) es.length (es.flatMap chC))) (hE : Ent l w) :
    Calls Tryd.prog 48 #[.slice ao es.length c, .string ⟨p.toArray⟩] w (Ret fun v w' => v = .int .i64 (findI es p) ∧ Ent l w') := by
  go_enter Tryd.func48, Tryd.ntmps48
  go_wp2
  go_loopw [5] (fun i wr => FdRel es p l i wr) (fun i _ => es.length - (intOf i).toNat)
  case atStart => exact ⟨0, Nat.zero_le _, rfl, fun j _ h => absurd h (Nat.not_lt_zero j), hE⟩
  case round =>
    clear hE
    obtain ⟨k, hkl, rfl, hin, hE⟩ := hrel
    have Hin := SL.hid hin
    clear hin
    by_cases hlt : k < es.length
    · obtain ⟨b, off, rfl, hz⟩ := ch_at (hk _ hE) hlt
      have h0 : wr.cell? ⟨b, off + k * 7, none⟩ = some (.string ⟨es[k].path.toArray⟩) := hz 0 _ rfl
      clear hz
      have Hx := SL.hid (show ∀ x, es[k].path = x → es[k].path = x from fun _ h => h)
      obtain ⟨x, hx⟩ : ∃ x, es[k].path = x := ⟨_, rfl⟩
      have HX := SL.hid hx
      rw [hx] at h0
      clear hx Hx
      cases he : (x == p) with
      | true =>
        have R := SL.hid (findI_at hlt Hin.out (by rw [HX.out]; simpa using he))
        go_wp2
        go_ret
        exact ⟨_, rfl, by rw [R.out]; rfl, hE⟩
      | false =>
        have Hne := SL.hid (show x ≠ p by simpa using he)
        go_wp2
        go_roundw
        case rel =>
          refine ⟨k + 1, hlt, by first | rfl | simp, fun j hj hjk => ?_, hE⟩
          rcases Nat.lt_or_eq_of_le (Nat.le_of_lt_succ hjk) with h | rfl
          · exact Hin.out j hj h
          · rw [HX.out]; exact Hne.out
        case measure => simp [intOf] <;> omega
    · obtain rfl : k = es.length := by omega
      have R := SL.hid (findI_none Hin.out)
      go_wp2
      go_ret
      exact ⟨_, rfl, by rw [R.out]; rfl, hE⟩
end Go.Proofs.YtcpgelpajppgdaaDoor
namespace Go.Proofs.YtcpgelpajppgdaaDoor
open Go.RowKit Go.SL

def pathsRel (es : List En) (l : List HProp) (o i : Value) (wr : World) : Prop :=
  ∃ (k : Nat) (ao : Option Addr) (c : Nat) (pre : List (List UInt8)), k ≤ es.length ∧ i = .int .i64 k ∧ pre = (es.take k).map En.path ∧ o = .slice ao pre.length c ∧ Ent (rowS ao c pre :: l) wr
set_option maxRecDepth 100000 in
set_option maxHeartbeats 2000000 in
theorem paths_any {es : List En} (hn : es.length ≤ 1000000) {ao : Option Addr} {c : Nat} {l : List HProp} {w : World} (hk : Knows l (reads (.slice ao es.length c) es.length (es.flatMap enC))) (hE : Ent l w) :
    Calls Tryd.prog 35 #[.slice ao es.length c] w (Ret fun v w' => ∃ ao' c', v = .slice ao' (es.map En.path).length c' ∧ Ent (rowS ao' c' (es.map En.path) :: l) w') := by
  go_enter Tryd.func35, Tryd.ntmps35
  go_wp2
  go_loopw [3, 4] (fun o i wr => pathsRel es l o i wr) (fun _ i _ => es.length - (intOf i).toNat)
  case atStart => exact ⟨0, none, 0, [], Nat.zero_le _, rfl, rfl, rfl, hE.nil _ _⟩
  case round =>
    clear hE
    obtain ⟨k, a1, c1, pre, hkl, rfl, hpre, rfl, hE⟩ := hrel
    have hpl : pre.length ≤ 1000000 := by rw [hpre, List.length_map, List.length_take]; omega
    by_cases hlt : k < es.length
    · obtain ⟨b, off, rfl, hz⟩ := en_at (hk _ hE.tail) hlt
      have h0 : wr.cell? ⟨b, off + k * 3, none⟩ = some (.string ⟨es[k].path.toArray⟩) := hz 0 _ rfl
      clear hz
      have Hst := SL.hid (show (es.take (k + 1)).map En.path = pre ++ [es[k].path] by rw [List.take_succ_eq_append_getElem hlt, List.map_append, ← hpre]; rfl)
      clear hpre
      generalize es[k].path = x at *
      go_wp2_with (first
        | go_skip
        | ((with_reducible (show Go.wpList _ _ _ (Go.Oper.mk _ (.call { callee := .builtin .append, args := _, argTypes := _ }) _ _ _ _ :: _) _ _)); have hE9 := hE.alloc (.cells #[.string ⟨x.toArray⟩] 9); refine wpl_appendG hE9 1 rfl rfl rfl rfl rfl Tryd.underlying75 info_str (by decide) (m := 1) (news := [strv x]) (reads_pt hE9 0 rfl (off := 0) (fun j u hu => by rw [Nat.zero_add, List.getElem?_toArray]; exact hu)) rfl (by simp [strv, Value.oneCell']) (by omega) (by omega) ?_; clear hE9 hE; intro ao' c' w6 hE10; simp only [List.set_cons_zero, List.set_cons_succ] at hE10))
      go_roundw
      case measure => simp [intOf] <;> omega
      case rel =>
        have hF := hE10.tail
        have e1 : (pre ++ [x]).length = pre.length + 1 := by simp
        have e2 : (pre ++ [x]).map strv = pre.map strv ++ [strv x] := by simp
        exact ⟨k + 1, ao', c', pre ++ [x], hlt, by first | rfl | simp, Hst.out.symm, by rw [e1], by simp only [rowS, e1, e2]; exact hF⟩
    · obtain rfl : k = es.length := by omega
      rw [List.take_length] at hpre
      subst hpre
      go_wp2
      go_ret
      exact ⟨_, rfl, a1, c1, rfl, hE⟩
def chg2Rel (es : List Ch) (l : List HProp) (o i : Value) (wr : World) : Prop :=
  ∃ (k : Nat) (ao : Option Addr) (c : Nat) (pre : List (List UInt8)), k ≤ es.length ∧ i = .int .i64 k ∧ pre = (es.take k).map Ch.path ∧ o = .slice ao pre.length c ∧ Ent (rowS ao c pre :: l) wr
set_option maxRecDepth 100000 in
set_option maxHeartbeats 2000000 in
theorem chg2_any {es : List Ch} (hn : es.length ≤ 1000000) {ao : Option Addr} {c : Nat} {l : List HProp} {w : World} (hk : Knows l (reads (.slice ao es.length c) es.length (es.flatMap chC))) (hE : Ent l w) :
    Calls Tryd.prog 47 #[.slice ao es.length c] w (Ret fun v w' => ∃ ao' c', v = .slice ao' (es.map Ch.path).length c' ∧ Ent (rowS ao' c' (es.map Ch.path) :: l) w') := by
  go_enter Tryd.func47, Tryd.ntmps47
  go_wp2
  go_loopw [3, 4] (fun o i wr => chg2Rel es l o i wr) (fun _ i _ => es.length - (intOf i).toNat)
  case atStart => exact ⟨0, none, 0, [], Nat.zero_le _, rfl, rfl, rfl, hE.nil _ _⟩
  case round =>
    clear hE
    obtain ⟨k, a1, c1, pre, hkl, rfl, hpre, rfl, hE⟩ := hrel
    have hpl : pre.length ≤ 1000000 := by rw [hpre, List.length_map, List.length_take]; omega
    by_cases hlt : k < es.length
    · obtain ⟨b, off, rfl, hz⟩ := ch_at (hk _ hE.tail) hlt
      have h0 : wr.cell? ⟨b, off + k * 7, none⟩ = some (.string ⟨es[k].path.toArray⟩) := hz 0 _ rfl
      clear hz
      have Hst := SL.hid (show (es.take (k + 1)).map Ch.path = pre ++ [es[k].path] by rw [List.take_succ_eq_append_getElem hlt, List.map_append, ← hpre]; rfl)
      clear hpre
      generalize es[k].path = x at *
      go_wp2_with (first
        | go_skip
        | ((with_reducible (show Go.wpList _ _ _ (Go.Oper.mk _ (.call { callee := .builtin .append, args := _, argTypes := _ }) _ _ _ _ :: _) _ _)); have hE9 := hE.alloc (.cells #[.string ⟨x.toArray⟩] 9); refine wpl_appendG hE9 1 rfl rfl rfl rfl rfl Tryd.underlying75 info_str (by decide) (m := 1) (news := [strv x]) (reads_pt hE9 0 rfl (off := 0) (fun j u hu => by rw [Nat.zero_add, List.getElem?_toArray]; exact hu)) rfl (by simp [strv, Value.oneCell']) (by omega) (by omega) ?_; clear hE9 hE; intro ao' c' w6 hE10; simp only [List.set_cons_zero, List.set_cons_succ] at hE10))
      go_roundw
      case measure => simp [intOf] <;> omega
      case rel =>
        have hF := hE10.tail
        have e1 : (pre ++ [x]).length = pre.length + 1 := by simp
        have e2 : (pre ++ [x]).map strv = pre.map strv ++ [strv x] := by simp
        exact ⟨k + 1, ao', c', pre ++ [x], hlt, by first | rfl | simp, Hst.out.symm, by rw [e1], by simp only [rowS, e1, e2]; exact hF⟩
    · obtain rfl : k = es.length := by omega
      rw [List.take_length] at hpre
      subst hpre
      go_wp2
      go_ret
      exact ⟨_, rfl, a1, c1, rfl, hE⟩
end Go.Proofs.YtcpgelpajppgdaaDoor
namespace Go.Proofs.YtcpgelpajppgdaaDoor
open Go.RowKit Go.SL

/-- the document's side of a path -/
def rOf (l : List En) (p : List UInt8) : Sd := match l.find? (fun x => x.path == p) with
  | some x => ⟨true, x.dir, x.data⟩
  | none => if p = [] then ⟨true, true, []⟩ else .no
theorem rOf_fE {l : List En} {p : List UInt8} (h : p ≠ []) : rOf l p = fE l p := by
  unfold rOf fE
  cases l.find? (fun x => x.path == p) with
  | some x => rfl
  | none => rw [if_neg h]; rfl
theorem find_first {l : List En} {p : List UInt8} {k : Nat} (hk : k < l.length) (h : ∀ (j : Nat) (hj : j < l.length), j < k → l[j].path ≠ p) (he : l[k].path = p) : l.find? (fun x => x.path == p) = some l[k] := by
  rw [List.find?_eq_some_iff_getElem]
  exact ⟨by simpa using he, k, hk, rfl, fun j hj => by simpa using h j (by omega) hj⟩
theorem find_nowhere {l : List En} {p : List UInt8} (h : ∀ (j : Nat) (hj : j < l.length), j < l.length → l[j].path ≠ p) : l.find? (fun x => x.path == p) = none := by
  refine List.find?_eq_none.2 fun x hx => ?_
  obtain ⟨j, hj, rfl⟩ := List.getElem_of_mem hx
  simpa using h j hj hj
def OfRel (es : List En) (p : List UInt8) (b4 : Nat) (l : List HProp) (i : Value) (wr : World) : Prop := ∃ k : Nat, k ≤ es.length ∧ i = .int .i64 k ∧ (∀ (j : Nat) (hj : j < es.length), j < k → es[j].path ≠ p) ∧ Ent (pt b4 (.cells #[.bool false, .bool false, .string ⟨#[]⟩] 39) :: l) wr
set_option maxRecDepth 100000 in
set_option maxHeartbeats 2000000 in
attribute [-go_sem] Instr.loadAt in
theorem rOf_any {es : List En} {p : List UInt8} (hn : es.length ≤ 1000000) {ao : Option Addr} {c : Nat} {l : List HProp} {w : World} (hk : Knows l (reads (.slice ao es.length c) es.length (es.flatMap enC))) (hE : Ent l w) :
    Calls Tryd.prog 16 #[.slice ao es.length c, .string ⟨p.toArray⟩] w (Ret fun v w' => v = sdV (rOf es p) ∧ Ent l w') := by
  go_enter Tryd.func16, Tryd.ntmps16
  go_wp2_with (first
    | go_skip
    | ((with_reducible (show Go.wpList _ _ _ (Go.Oper.mk _ (.alloc _) _ _ _ _ :: _) _ _)); refine wpl_alloc hE rfl rfl (by simp [go_sem]; rfl) ?_; clear hE; intro b4 w hE; simp only [Act.eval, Act.put, List.setIfInBounds_toArray, List.set_cons_zero, List.set_cons_succ, getD_lit, List.getD_cons_succ, List.getD_cons_zero, Value.cells] at hE))
  go_loopw [5] (fun i wr => OfRel es p b4 l i wr) (fun i _ => es.length - (intOf i).toNat)
  case atStart => exact ⟨0, Nat.zero_le _, rfl, fun j _ h => absurd h (Nat.not_lt_zero j), hE⟩
  case round =>
    clear hE
    obtain ⟨k, hkl, rfl, hin, hE⟩ := hrel
    have Hin := SL.hid hin
    clear hin
    by_cases hlt : k < es.length
    · obtain ⟨b, off, rfl, hz⟩ := en_at (hk _ hE.tail) hlt
      clear hz
      have f0 := SL.hid (show ∀ w, Ent l w → _ from fun w h => load_en (hk w h) hlt)
      have hl0 := (f0.out _ hE.tail).2.1
      obtain ⟨x, hx⟩ : ∃ x, es[k] = x := ⟨_, rfl⟩
      have HX := SL.hid hx
      rw [hx] at f0 hl0
      clear hx
      obtain ⟨xp, xd, xb⟩ := x
      simp only at f0 hl0
      cases he : (xp == p) with
      | true =>
        have R := SL.hid (show rOf es p = ⟨true, xd, xb⟩ by
          have := find_first hlt Hin.out (by rw [HX.out]; simpa using he)
          rw [rOf, this, HX.out])
        go_wp2
        refine wp_region_held_drew (S := (fun w' => ((Instr.loadAt 4 (.pointer (some ⟨b, off + k * 3 + 1, none⟩))).run Tryd.prog w' = .ok (.bool xd) w') ∧ ((Instr.loadAt 9 (.pointer (some ⟨b, off + k * 3 + 2, none⟩))).run Tryd.prog w' = .ok (.string ⟨xb.toArray⟩) w'))) (by kernel_rfl) ⟨((f0.out _ (hE.drew.tail)).2.2.1), ((f0.out _ (hE.drew.tail)).2.2.2)⟩ (fun hS => ?_)
        refine takeW 0 ⟨some 19, .move (.tmp 0), _, _, _, none⟩ ?_ (.inl ⟨by rfl, ?_⟩) hS ?_; rotate_left; · (intro _ _; go_simp; (try with_reducible rfl))
        try simp only [Act.put, sb, s0, sz]
        refine takeW 1 ⟨some 20, .move (.tmp 5), _, _, _, none⟩ ?_ (.inl ⟨by rfl, ?_⟩) hS ?_; rotate_left; · (intro _ _; go_simp; (try with_reducible rfl))
        try simp only [Act.put, sb, s0, sz]
        refine takeW 2 ⟨some 21, .indexAddr 22 (.tmp 19) (.tmp 20), _, _, _, none⟩ ?_ (.inl ⟨by rfl, ?_⟩) hS ?_; rotate_left; · (intro _ _; go_simp; (try with_reducible rfl))
        try simp only [Act.put, sb, s0, sz]
        refine takeW 3 ⟨some 22, .fieldAddr 63 (.tmp 21) 1, _, _, _, none⟩ ?_ (.inl ⟨by rfl, ?_⟩) hS ?_; rotate_left; · (intro _ _; go_simp; (try with_reducible rfl))
        try simp only [Act.put, sb, s0, sz]
        refine takeW 4 ⟨some 23, .load 4 (.tmp 22), _, _, _, none⟩ ?_ (.inl ⟨by rfl, ?_⟩) hS ?_; rotate_left; · (intro w hSw; (try dsimp only at hSw); go_simp; (try with_reducible rfl))
        try simp only [Act.put, sb, s0, sz]
        refine takeW 5 ⟨some 24, .move (.tmp 0), _, _, _, none⟩ ?_ (.inl ⟨by rfl, ?_⟩) hS ?_; rotate_left; · (intro _ _; go_simp; (try with_reducible rfl))
        try simp only [Act.put, sb, s0, sz]
        refine takeW 6 ⟨some 25, .move (.tmp 5), _, _, _, none⟩ ?_ (.inl ⟨by rfl, ?_⟩) hS ?_; rotate_left; · (intro _ _; go_simp; (try with_reducible rfl))
        try simp only [Act.put, sb, s0, sz]
        refine takeW 7 ⟨some 26, .indexAddr 22 (.tmp 24) (.tmp 25), _, _, _, none⟩ ?_ (.inl ⟨by rfl, ?_⟩) hS ?_; rotate_left; · (intro _ _; go_simp; (try with_reducible rfl))
        try simp only [Act.put, sb, s0, sz]
        refine takeW 8 ⟨some 27, .fieldAddr 63 (.tmp 26) 2, _, _, _, none⟩ ?_ (.inl ⟨by rfl, ?_⟩) hS ?_; rotate_left; · (intro _ _; go_simp; (try with_reducible rfl))
        try simp only [Act.put, sb, s0, sz]
        refine takeW 9 ⟨some 28, .load 9 (.tmp 27), _, _, _, none⟩ ?_ (.inl ⟨by rfl, ?_⟩) hS ?_; rotate_left; · (intro w hSw; (try dsimp only at hSw); go_simp; (try with_reducible rfl))
        try simp only [Act.put, sb, s0, sz]
        refine takeW 10 ⟨some 29, .build 39 #[(0, .const (.bool true)), (1, .tmp 23), (2, .tmp 28)], _, _, _, none⟩ ?_ (.inl ⟨by rfl, ?_⟩) hS ?_; rotate_left; · (intro _ _; go_simp; (try with_reducible rfl))
        try simp only [Act.put, sb, s0, sz]
        refine wpAnyH_ready (rs := [11]) (by kernel_rfl) (by simp) ?_
        refine (AllReadyH.cons (o := ⟨none, .store 39 (.tmp 4) (.tmp 29), _, _, _, none⟩) rfl (fun K hK => ?_) AllReadyH.nil)
        (refine step_storeW hE.drew 0 rfl (by rfl) (by rfl) (by rfl) (xs := [.bool true, .bool xd, .string ⟨xb.toArray⟩]) (by rfl) Tryd.sizeOf39 rfl (by simp [Value.oneCell']) rfl ?_; intro w7 hEs; simp only [List.set_cons_zero] at hEs)
        refine hK.out _ _ ⟨((f0.out _ (hEs.tail)).2.2.1), ((f0.out _ (hEs.tail)).2.2.2)⟩ (fun hS => ?_)
        clear hK K
        try simp only [Act.put, sb, s0, sz]
        refine wpAnyH_done (by kernel_rfl) ?_ _
        all_goals
          clear hS
          go_wp2
          refine bodyPost_ret (results_cellA rfl hEs 0 rfl rfl Tryd.isAgg39 Tryd.sizeOf39 rfl) rfl ?_
          exact ⟨_, rfl, by rw [R.out]; rfl, hEs.tail⟩
      | false =>
        have Hne := SL.hid (show xp ≠ p by simpa using he)
        go_wp2
        go_roundw
        case rel =>
          refine ⟨k + 1, hlt, by first | rfl | simp, fun j hj hjk => ?_, hE⟩
          rcases Nat.lt_or_eq_of_le (Nat.le_of_lt_succ hjk) with h | rfl
          · exact Hin.out j hj h
          · rw [HX.out]; exact Hne.out
        case measure => simp [intOf] <;> omega
    · obtain rfl : k = es.length := by omega
      have hnw := find_nowhere Hin.out
      cases hp0 : (p == []) with
      | true =>
        have R := SL.hid (show rOf es p = ⟨true, true, []⟩ by rw [rOf, hnw]; simp only; rw [if_pos (by simpa using hp0)])
        clear hnw
        go_wp2_with (first
          | go_skip
          | ((with_reducible (show Go.wpList _ _ _ (Go.Oper.mk _ (.store _ _ _) _ _ _ _ :: _) _ _)); refine wpl_storeW hE 0 rfl rfl rfl (xs := [.bool true, .bool true, .string ⟨#[]⟩]) rfl rfl Tryd.sizeOf39 rfl (by simp [Value.oneCell']) rfl ?_; clear hE; intro w8 hE; simp only [List.set_cons_zero] at hE))
        refine bodyPost_ret (results_cellA rfl hE 0 rfl rfl Tryd.isAgg39 Tryd.sizeOf39 rfl) rfl ?_
        exact ⟨_, rfl, by rw [R.out]; rfl, hE.tail⟩
      | false =>
        have R := SL.hid (show rOf es p = .no by rw [rOf, hnw]; simp only; rw [if_neg (by simpa using hp0)])
        clear hnw
        go_wp2_with (first
          | go_skip
          | ((with_reducible (show Go.wpList _ _ _ (Go.Oper.mk _ (.store _ _ _) _ _ _ _ :: _) _ _)); refine wpl_storeW hE 0 rfl rfl rfl (xs := [.bool false, .bool false, .string ⟨#[]⟩]) rfl rfl Tryd.sizeOf39 rfl (by simp [Value.oneCell']) rfl ?_; clear hE; intro w8 hE; simp only [List.set_cons_zero] at hE))
        refine bodyPost_ret (results_cellA rfl hE 0 rfl rfl Tryd.isAgg39 Tryd.sizeOf39 rfl) rfl ?_
        exact ⟨_, rfl, by rw [R.out]; rfl, hE.tail⟩
end Go.Proofs.YtcpgelpajppgdaaDoor
namespace Go.Proofs.YtcpgelpajppgdaaDoor
open Go.RowKit Go.SL

set_option maxRecDepth 100000 in
theorem sideOf_any {t : Tr} {kv : Value} {l : List HProp} {w : World} (hE : Ent l w) :
    Calls Tryd.prog 38 #[.agg #[.bool t.dir, .string ⟨t.data.toArray⟩, kv]] w (Ret fun v w' => v = sdV ⟨true, t.dir, t.data⟩ ∧ Ent l w') := by
  go_enter Tryd.func38, Tryd.ntmps38
  go_wp2_with (first
    | go_skip
    | ((with_reducible (show Go.wpList _ _ _ (Go.Oper.mk _ (.box _ _) _ _ _ _ :: _) _ _)); refine wpl_box hE rfl rfl rfl ?_; clear hE; intro b1 w hE; simp only [Act.eval, Act.put, List.setIfInBounds_toArray, List.set_cons_zero, List.set_cons_succ, getD_lit, List.getD_cons_succ, List.getD_cons_zero, Value.cells] at hE)
    | ((with_reducible (show Go.wpList _ _ _ (Go.Oper.mk _ (.alloc _) _ _ _ _ :: _) _ _)); refine wpl_alloc hE rfl rfl (by simp [go_sem]; rfl) ?_; clear hE; intro b2 w hE; simp only [Act.eval, Act.put, List.setIfInBounds_toArray, List.set_cons_zero, List.set_cons_succ, getD_lit, List.getD_cons_succ, List.getD_cons_zero, Value.cells] at hE)
    | ((with_reducible (show Go.wpList _ _ _ (Go.Oper.mk _ (.store _ _ _) _ _ _ _ :: _) _ _)); refine wpl_storeW hE 0 rfl rfl rfl (xs := [.bool true, .bool t.dir, .string ⟨t.data.toArray⟩]) rfl rfl Tryd.sizeOf36 rfl (by simp [Value.oneCell']) rfl ?_; clear hE; intro w8 hE; simp only [List.set_cons_zero] at hE)
    | ((with_reducible (show Go.wpList _ _ _ (Go.Oper.mk _ (.load _ _) _ _ _ _ :: _) _ _)); (first | (refine wpl_load1 hE 0 rfl rfl rfl rfl (by simp [go_sem]) rfl ?_) | (refine wpl_load1 hE 1 rfl rfl rfl rfl (by simp [go_sem]) rfl ?_) | (refine wpl_load1 hE 2 rfl rfl rfl rfl (by simp [go_sem]) rfl ?_) | (refine wpl_load1 hE 3 rfl rfl rfl rfl (by simp [go_sem]) rfl ?_) | (refine wpl_load1 hE 4 rfl rfl rfl rfl (by simp [go_sem]) rfl ?_) | (refine wpl_load1 hE 5 rfl rfl rfl rfl (by simp [go_sem]) rfl ?_) | (refine wpl_load1 hE 6 rfl rfl rfl rfl (by simp [go_sem]) rfl ?_) | (refine wpl_load1 hE 7 rfl rfl rfl rfl (by simp [go_sem]) rfl ?_))))
  refine bodyPost_ret (results_cellA rfl hE 0 rfl rfl Tryd.isAgg36 Tryd.sizeOf36 rfl) rfl ?_
  exact ⟨_, rfl, rfl, hE.tail.tail⟩
set_option maxRecDepth 100000 in
theorem entry_nil {l : List HProp} {w : World} (hE : Ent l w) :
    Calls Tryd.prog 33 #[.pointer none] w (Ret fun v w' => v = sdV .no ∧ Ent l w') := by
  go_enter Tryd.func33, Tryd.ntmps33
  go_wp2_with (first
    | go_skip
    | ((with_reducible (show Go.wpList _ _ _ (Go.Oper.mk _ (.alloc _) _ _ _ _ :: _) _ _)); refine wpl_alloc hE rfl rfl (by simp [go_sem]; rfl) ?_; clear hE; intro b2 w hE; simp only [Act.eval, Act.put, List.setIfInBounds_toArray, List.set_cons_zero, List.set_cons_succ, getD_lit, List.getD_cons_succ, List.getD_cons_zero, Value.cells] at hE)
    | ((with_reducible (show Go.wpList _ _ _ (Go.Oper.mk _ (.store _ _ _) _ _ _ _ :: _) _ _)); refine wpl_storeW hE 0 rfl rfl rfl (xs := [.bool false, .bool false, .string ⟨#[]⟩]) rfl rfl Tryd.sizeOf36 rfl (by simp [Value.oneCell']) rfl ?_; clear hE; intro w8 hE; simp only [List.set_cons_zero] at hE))
  refine bodyPost_ret (results_cellA rfl hE 0 rfl rfl Tryd.isAgg36 Tryd.sizeOf36 rfl) rfl ?_
  exact ⟨_, rfl, rfl, hE.tail⟩
set_option maxRecDepth 100000 in
theorem lside_any (s : Sd) {l : List HProp} {w : World} (hE : Ent l w) :
    Calls Tryd.prog 15 #[sdV s] w (Ret fun v w' => v = sdV s ∧ Ent l w') := by
  simp only [sdV]
  go_enter Tryd.func15, Tryd.ntmps15
  go_wp2_with (first
    | go_skip
    | ((with_reducible (show Go.wpList _ _ _ (Go.Oper.mk _ (.box _ _) _ _ _ _ :: _) _ _)); refine wpl_box hE rfl rfl rfl ?_; clear hE; intro b1 w hE; simp only [Act.eval, Act.put, List.setIfInBounds_toArray, List.set_cons_zero, List.set_cons_succ, getD_lit, List.getD_cons_succ, List.getD_cons_zero, Value.cells] at hE)
    | ((with_reducible (show Go.wpList _ _ _ (Go.Oper.mk _ (.alloc _) _ _ _ _ :: _) _ _)); refine wpl_alloc hE rfl rfl (by simp [go_sem]; rfl) ?_; clear hE; intro b2 w hE; simp only [Act.eval, Act.put, List.setIfInBounds_toArray, List.set_cons_zero, List.set_cons_succ, getD_lit, List.getD_cons_succ, List.getD_cons_zero, Value.cells] at hE)
    | ((with_reducible (show Go.wpList _ _ _ (Go.Oper.mk _ (.store _ _ _) _ _ _ _ :: _) _ _)); refine wpl_storeW hE 0 rfl rfl rfl (xs := [.bool s.there, .bool s.dir, .string ⟨s.data.toArray⟩]) rfl rfl Tryd.sizeOf36 rfl (by simp [Value.oneCell']) rfl ?_; clear hE; intro w8 hE; simp only [List.set_cons_zero] at hE)
    | ((with_reducible (show Go.wpList _ _ _ (Go.Oper.mk _ (.load _ _) _ _ _ _ :: _) _ _)); (first | (refine wpl_load1 hE 0 rfl rfl rfl rfl (by simp [go_sem]) rfl ?_) | (refine wpl_load1 hE 1 rfl rfl rfl rfl (by simp [go_sem]) rfl ?_) | (refine wpl_load1 hE 2 rfl rfl rfl rfl (by simp [go_sem]) rfl ?_) | (refine wpl_load1 hE 3 rfl rfl rfl rfl (by simp [go_sem]) rfl ?_) | (refine wpl_load1 hE 4 rfl rfl rfl rfl (by simp [go_sem]) rfl ?_) | (refine wpl_load1 hE 5 rfl rfl rfl rfl (by simp [go_sem]) rfl ?_) | (refine wpl_load1 hE 6 rfl rfl rfl rfl (by simp [go_sem]) rfl ?_) | (refine wpl_load1 hE 7 rfl rfl rfl rfl (by simp [go_sem]) rfl ?_))))
  refine bodyPost_ret (results_cellA rfl hE 0 rfl rfl Tryd.isAgg36 Tryd.sizeOf36 rfl) rfl ?_
  exact ⟨_, rfl, rfl, hE.tail.tail⟩
set_option maxRecDepth 100000 in
set_option maxHeartbeats 1000000 in
attribute [-go_sem] Instr.loadAt in
theorem entry_some {x : En} {b off : Nat} {l : List HProp} (f0 : ∀ w, Ent l w → (Instr.loadAt 4 (.pointer (some ⟨b, off + 1, none⟩))).run Tryd.prog w = .ok (.bool x.dir) w ∧ (Instr.loadAt 9 (.pointer (some ⟨b, off + 2, none⟩))).run Tryd.prog w = .ok (.string ⟨x.data.toArray⟩) w) {w : World} (hE : Ent l w) :
    Calls Tryd.prog 33 #[.pointer (some ⟨b, off, none⟩)] w (Ret fun v w' => v = sdV ⟨true, x.dir, x.data⟩ ∧ Ent l w') := by
  have F0 := SL.hid f0
  clear f0
  go_enter Tryd.func33, Tryd.ntmps33
  go_wp2_with (first
    | go_skip
    | ((with_reducible (show Go.wpList _ _ _ (Go.Oper.mk _ (.alloc _) _ _ _ _ :: _) _ _)); refine wpl_alloc hE rfl rfl (by simp [go_sem]; rfl) ?_; clear hE; intro b2 w hE; simp only [Act.eval, Act.put, List.setIfInBounds_toArray, List.set_cons_zero, List.set_cons_succ, getD_lit, List.getD_cons_succ, List.getD_cons_zero, Value.cells] at hE))
  refine wp_region_held_drew (S := (fun w' => ((Instr.loadAt 4 (.pointer (some ⟨b, off + 1, none⟩))).run Tryd.prog w' = .ok (.bool x.dir) w') ∧ ((Instr.loadAt 9 (.pointer (some ⟨b, off + 2, none⟩))).run Tryd.prog w' = .ok (.string ⟨x.data.toArray⟩) w'))) (by kernel_rfl) ⟨((F0.out _ (hE.drew.tail)).1), ((F0.out _ (hE.drew.tail)).2)⟩ (fun hS => ?_)
  refine takeW 0 ⟨some 6, .move (.tmp 0), _, _, _, none⟩ ?_ (.inl ⟨by rfl, ?_⟩) hS ?_; rotate_left; · (intro _ _; go_simp; (try with_reducible rfl))
  try simp only [Act.put, sb, s0, sz]
  refine takeW 1 ⟨some 7, .nilCheck (.tmp 6), _, _, _, none⟩ ?_ (.inl ⟨by rfl, ?_⟩) hS ?_; rotate_left; · (intro _ _; go_simp; (try with_reducible rfl))
  try simp only [Act.put, sb, s0, sz]
  refine takeW 2 ⟨some 8, .fieldAddr 63 (.tmp 7) 1, _, _, _, none⟩ ?_ (.inl ⟨by rfl, ?_⟩) hS ?_; rotate_left; · (intro _ _; go_simp; (try with_reducible rfl))
  try simp only [Act.put, sb, s0, sz]
  refine takeW 3 ⟨some 9, .load 4 (.tmp 8), _, _, _, none⟩ ?_ (.inl ⟨by rfl, ?_⟩) hS ?_; rotate_left; · (intro w hSw; (try dsimp only at hSw); go_simp; (try with_reducible rfl))
  try simp only [Act.put, sb, s0, sz]
  refine takeW 4 ⟨some 10, .move (.tmp 0), _, _, _, none⟩ ?_ (.inl ⟨by rfl, ?_⟩) hS ?_; rotate_left; · (intro _ _; go_simp; (try with_reducible rfl))
  try simp only [Act.put, sb, s0, sz]
  refine takeW 5 ⟨some 11, .nilCheck (.tmp 10), _, _, _, none⟩ ?_ (.inl ⟨by rfl, ?_⟩) hS ?_; rotate_left; · (intro _ _; go_simp; (try with_reducible rfl))
  try simp only [Act.put, sb, s0, sz]
  refine takeW 6 ⟨some 12, .fieldAddr 63 (.tmp 11) 2, _, _, _, none⟩ ?_ (.inl ⟨by rfl, ?_⟩) hS ?_; rotate_left; · (intro _ _; go_simp; (try with_reducible rfl))
  try simp only [Act.put, sb, s0, sz]
  refine takeW 7 ⟨some 13, .load 9 (.tmp 12), _, _, _, none⟩ ?_ (.inl ⟨by rfl, ?_⟩) hS ?_; rotate_left; · (intro w hSw; (try dsimp only at hSw); go_simp; (try with_reducible rfl))
  try simp only [Act.put, sb, s0, sz]
  refine takeW 8 ⟨some 14, .build 36 #[(0, .const (.bool true)), (1, .tmp 9), (2, .tmp 13)], _, _, _, none⟩ ?_ (.inl ⟨by rfl, ?_⟩) hS ?_; rotate_left; · (intro _ _; go_simp; (try with_reducible rfl))
  try simp only [Act.put, sb, s0, sz]
  refine wpAnyH_ready (rs := [9]) (by kernel_rfl) (by simp) ?_
  refine (AllReadyH.cons (o := ⟨none, .store 36 (.tmp 2) (.tmp 14), _, _, _, none⟩) rfl (fun K hK => ?_) AllReadyH.nil)
  (refine step_storeW hE.drew 0 rfl (by rfl) (by rfl) (by rfl) (xs := [.bool true, .bool x.dir, .string ⟨x.data.toArray⟩]) (by rfl) Tryd.sizeOf36 rfl (by simp [Value.oneCell']) rfl ?_; intro w7 hEs; simp only [List.set_cons_zero] at hEs)
  refine hK.out _ _ ⟨((F0.out _ (hEs.tail)).1), ((F0.out _ (hEs.tail)).2)⟩ (fun hS => ?_)
  clear hK K
  try simp only [Act.put, sb, s0, sz]
  refine wpAnyH_done (by kernel_rfl) ?_ _
  all_goals
    clear hS
    go_wp2
    refine bodyPost_ret (results_cellA rfl hEs 0 rfl rfl Tryd.isAgg36 Tryd.sizeOf36 rfl) rfl ?_
    exact ⟨_, rfl, rfl, hEs.tail⟩
end Go.Proofs.YtcpgelpajppgdaaDoor
namespace Go.Proofs.YtcpgelpajppgdaaDoor
open Go.RowKit Go.SL

def Small (x : Ch) : Prop := x.path.length ≤ 200 ∧ x.was.data.length ≤ 9000 ∧ x.now.data.length ≤ 9000
def gr28 (es : List Ch) : Bool := decide (100 < es.length) || es.any fun x => decide (200 < x.path.length) || decide (9000 < x.was.data.length) || decide (9000 < x.now.data.length)
theorem gr28_not {es : List Ch} : gr28 es = false ↔ es.length ≤ 100 ∧ ∀ x ∈ es, Small x := by
  simp only [gr28, Small, Bool.or_eq_false_iff, decide_eq_false_iff_not, List.any_eq_false, Nat.not_lt, Bool.not_eq_true, and_assoc]
def G28Post (es : List Ch) (l : List HProp) (v : Value) (w' : World) : Prop := v = .bool (gr28 es) ∧ Ent l w'
theorem G28Post.mk {es : List Ch} {l : List HProp} {w' : World} (b : Bool) (h : Ent l w') (h2 : gr28 es = b) : G28Post es l (.bool b) w' := ⟨by rw [h2], h⟩
def G28Rel (es : List Ch) (l : List HProp) (i : Value) (wr : World) : Prop := ∃ k : Nat, k ≤ es.length ∧ i = .int .i64 k ∧ (∀ x ∈ es.take k, Small x) ∧ Ent l wr
set_option maxRecDepth 100000 in
set_option maxHeartbeats 2000000 in
theorem Great28_any {es : List Ch} {ao : Option Addr} {c : Nat} {l : List HProp} {w : World} (hk : Knows l (reads (.slice ao es.length c) es.length (es.flatMap chC))) (hE : Ent l w) :
    Calls Tryd.prog 19 #[.slice ao es.length c] w (Ret (G28Post es l)) := by
  cases h100 : decide ((100 : Int) < (es.length : Int)) with
  | true =>
    go_enter Tryd.func19, Tryd.ntmps19
    go_wp2
    refine bodyPost_ret (results_tmp rfl _ _ _) rfl ?_
    exact ⟨_, rfl, .mk true hE (by have := of_decide_eq_true h100; rw [gr28, decide_eq_true (by omega)]; rfl)⟩
  | false =>
    have hle : es.length ≤ 100 := by have := of_decide_eq_false h100; omega
    have Hle := SL.hid hle
    go_enter Tryd.func19, Tryd.ntmps19
    go_wp2
    clear h100
    go_loopw [3] (fun i wr => G28Rel es l i wr) (fun i _ => es.length - (intOf i).toNat)
    case atStart => exact ⟨0, Nat.zero_le _, rfl, by simp, hE⟩
    case round =>
      clear hE
      obtain ⟨k, hkn, rfl, hin, hE⟩ := hrel
      have Hin := SL.hid hin
      clear hin
      by_cases hlt : k < es.length
      · obtain ⟨b, off, rfl, hz⟩ := ch_at (hk _ hE) hlt
        have h0 : wr.cell? ⟨b, off + k * 7, none⟩ = some (.string ⟨es[k].path.toArray⟩) := hz 0 _ rfl
        have h3 : wr.cell? ⟨b, off + k * 7 + 3, none⟩ = some (.string ⟨es[k].was.data.toArray⟩) := hz 3 _ rfl
        have h6 : wr.cell? ⟨b, off + k * 7 + 6, none⟩ = some (.string ⟨es[k].now.data.toArray⟩) := hz 6 _ rfl
        clear hz
        have h31 : wr.cell? ⟨b, off + k * 7 + 1 + 2, none⟩ = some (.string ⟨es[k].was.data.toArray⟩) := h3
        have h42 : wr.cell? ⟨b, off + k * 7 + 4 + 2, none⟩ = some (.string ⟨es[k].now.data.toArray⟩) := h6
        have htk := SL.hid (List.take_succ_eq_append_getElem hlt)
        have Hmem := SL.hid (List.getElem_mem hlt)
        generalize es[k] = x at *
        obtain ⟨xp, ⟨wt, wd, wb⟩, ⟨nt, nd, nb⟩⟩ := x
        simp only at h0 h3 h6 h31 h42
        cases hp : decide ((200 : Int) < (xp.length : Int)) with
        | true =>
          go_wp2
          refine bodyPost_ret (results_tmp rfl _ _ _) rfl ?_
          exact ⟨_, rfl, .mk true hE (eq_true_of_ne_false fun h => by have := ((gr28_not.1 h).2 _ Hmem.out).1; have := of_decide_eq_true hp; simp only at *; omega)⟩
        | false =>
          cases hw : decide ((9000 : Int) < (wb.length : Int)) with
          | true =>
            go_wp2
            refine bodyPost_ret (results_tmp rfl _ _ _) rfl ?_
            exact ⟨_, rfl, .mk true hE (eq_true_of_ne_false fun h => by have := ((gr28_not.1 h).2 _ Hmem.out).2.1; have := of_decide_eq_true hw; simp only at *; omega)⟩
          | false =>
            cases hd : decide ((9000 : Int) < (nb.length : Int)) with
            | true =>
              go_wp2
              refine bodyPost_ret (results_tmp rfl _ _ _) rfl ?_
              exact ⟨_, rfl, .mk true hE (eq_true_of_ne_false fun h => by have := ((gr28_not.1 h).2 _ Hmem.out).2.2; have := of_decide_eq_true hd; simp only at *; omega)⟩
            | false =>
              go_wp2
              go_roundw
              case rel =>
                refine ⟨k + 1, hlt, by first | rfl | simp, ?_, hE⟩
                rw [htk.out]
                intro y hy
                rcases List.mem_append.1 hy with h | h
                · exact Hin.out y h
                · rw [List.mem_singleton.1 h]
                  have := of_decide_eq_false hp
                  have := of_decide_eq_false hw
                  have := of_decide_eq_false hd
                  exact ⟨by simp only; omega, by simp only; omega, by simp only; omega⟩
              case measure => simp [intOf] <;> omega
      · obtain rfl : k = es.length := by omega
        go_wp2
        refine bodyPost_ret (results_tmp rfl _ _ _) rfl ?_
        exact ⟨_, rfl, .mk false hE (gr28_not.2 ⟨Hle.out, by have := Hin.out; rwa [List.take_length] at this⟩)⟩
end Go.Proofs.YtcpgelpajppgdaaDoor
namespace Go.Proofs.YtcpgelpajppgdaaDoor
open Go.RowKit Go.SL

def SoRelO (all : List (List UInt8)) (LL : List HProp) (o i : Value) (wr : World) : Prop :=
  ∃ (k : Nat) (ao : Option Addr) (c : Nat) (out : List (List UInt8)), k ≤ all.length ∧ i = .int .i64 k ∧ out = sortK (all.take k) ∧ o = .slice ao out.length c ∧ Ent (rowS ao c out :: LL) wr
def SoRelI (out : List (List UInt8)) (key : List UInt8) (L : List HProp) (a i : Value) (wr : World) : Prop :=
  ∃ (j : Nat) (isb : Bool), j ≤ out.length ∧ a = .int .i64 j ∧ i = .bool isb ∧ isb = (out.take j).contains key ∧ (∀ x ∈ out.take j, lessP x key = true ∨ x = key) ∧ Ent L wr
theorem sortK_step {all : List (List UInt8)} {k : Nat} (h : k < all.length) : sortK (all.take (k + 1)) = insP all[k] (sortK (all.take k)) := by
  rw [List.take_succ_eq_append_getElem h, sortK, List.foldl_append]
  rfl
theorem sortK_len : ∀ (all : List (List UInt8)), (sortK all).length ≤ all.length := by
  intro all
  have key : ∀ (k : List UInt8) (l : List (List UInt8)), (insP k l).length ≤ l.length + 1 := by
    intro k l
    induction l with
    | nil => simp [insP]
    | cons x r ih =>
      unfold insP
      split
      · simp
      · split
        · simp
        · simp only [List.length_cons]; omega
  have go : ∀ (l out : List (List UInt8)), (l.foldl (fun out k => insP k out) out).length ≤ out.length + l.length := by
    intro l
    induction l with
    | nil => intro out; simp
    | cons k l ih =>
      intro out
      have h1 := ih (insP k out)
      have h2 := key k out
      simp only [List.foldl_cons, List.length_cons]
      omega
  have := go all []
  simpa [sortK] using this
theorem row_capQ {e : TypeId} {size n c : Nat} {ao : Option Addr} {xs : List Value} {l : List HProp} {w : World} (hE : Ent l w) (i : Nat) (hi : l[i]? = some (row e size (.slice ao n c) n xs)) : n ≤ c := by
  rcases (hE.owns i hi).2 with ⟨h, h0⟩ | ⟨g, cap, cur, h, _, _, hn, _⟩
  · omega
  · cases h; exact hn
theorem row_parts {ao : Option Addr} {c : Nat} {xs : List (List UInt8)} {LL : List HProp} {w : World} (hE : Ent (rowS ao c xs :: LL) w) {j : Nat} (hj : j ≤ xs.length) :
    (∀ w, (Instr.sliceAt 75 (.slice ao xs.length c) none (some (.int .i64 j)) none).run Tryd.prog w = .ok (.slice ao j c) w) ∧
    (∀ w, (Instr.sliceAt 75 (.slice ao xs.length c) (some (.int .i64 j)) none none).run Tryd.prog w = .ok (.slice (cutAt 1 ao c j) (xs.length - j) (c - j)) w) ∧
    (∀ w, Ent (rowS ao c xs :: LL) w → reads (.slice ao j c) j ((xs.take j).map strv) w) ∧
    (∀ w, Ent (rowS ao c xs :: LL) w → reads (.slice (cutAt 1 ao c j) (xs.length - j) (c - j)) (xs.length - j) ((xs.drop j).map strv) w) := by
  have hc := row_capQ hE 0 rfl
  refine ⟨fun w => ?_, fun w => ?_, fun w h => ?_, fun w h => ?_⟩
  · rw [sliceAt_slice Tryd.underlying75, run_cut_hi Tryd.underlying75 Tryd.sizeOf9 _ _ c .i64 j (by omega), cut_zero]; rfl
  · rw [sliceAt_slice Tryd.underlying75, run_cut_lo Tryd.underlying75 Tryd.sizeOf9 _ _ c .i64 j (by omega)]
  · have := reads_first (size := 1) (reads_row h 0 rfl) hj
    rwa [Nat.mul_one, ← List.map_take] at this
  · have := reads_behind (size := 1) (reads_row h 0 rfl) (by simp) hc hj
    rwa [Nat.mul_one, ← List.map_drop] at this
theorem strv_one {xs : List (List UInt8)} : ∀ u ∈ xs.map strv, u.oneCell' = true := by intro u hu; obtain ⟨x, _, rfl⟩ := List.mem_map.1 hu; rfl
set_option maxRecDepth 100000 in
set_option maxHeartbeats 8000000 in
attribute [-go_sem] Instr.loadAt in
theorem sorted_any {xs ys : List (List UInt8)} (hn : xs.length + ys.length ≤ 100000) (hx : ∀ x ∈ xs ++ ys, x.length ≤ 100000) {ao bo : Option Addr} {c d : Nat} {l : List HProp} {w : World} (ha : Knows l (reads (.slice ao xs.length c) xs.length (xs.map strv))) (hb : Knows l (reads (.slice bo ys.length d) ys.length (ys.map strv))) (hE : Ent l w) :
    Calls Tryd.prog 34 #[.slice ao xs.length c, .slice bo ys.length d] w (Ret fun v w' => ∃ a' c' m, v = .slice a' (sortK (xs ++ ys)).length c' ∧ Ent (rowS a' c' (sortK (xs ++ ys)) :: (m ++ l)) w') := by
  have e1 : (xs.map strv).length = xs.length * 1 := by simp
  have e2 : (ys.map strv).length = ys.length * 1 := by simp
  have o1 : ∀ u ∈ xs.map strv, u.oneCell' = true := by intro u hu; obtain ⟨x, _, rfl⟩ := List.mem_map.1 hu; rfl
  have o2 : ∀ u ∈ ys.map strv, u.oneCell' = true := by intro u hu; obtain ⟨x, _, rfl⟩ := List.mem_map.1 hu; rfl
  obtain ⟨all, hal⟩ : ∃ all, xs ++ ys = all := ⟨_, rfl⟩
  have eN : xs.length + ys.length = all.length := by rw [← hal, List.length_append]
  have eM : xs.map strv ++ ys.map strv = all.map strv := by rw [← hal, List.map_append]
  rw [hal] at hx ⊢
  have EN := SL.hid eN
  have EM := SL.hid eM
  clear hal eN eM
  go_enter Tryd.func34, Tryd.ntmps34
  have Tok := SL.hid True.intro
  go_wp2_with (first
    | go_skip
    | ((with_reducible (show Go.wpList _ _ _ (Go.Oper.mk _ (.call { callee := .builtin .append, args := _, argTypes := _ }) _ _ _ _ :: _) _ _)); clear Tok; refine wpl_appendG (hE.nil 9 1) 0 rfl rfl rfl rfl rfl Tryd.underlying75 info_str (by decide) (m := xs.length) (news := xs.map strv) (ha _ hE) e1 o1 (by omega) (by omega) ?_; clear hE; intro a1 c1 w6 hE; simp only [List.set_cons_zero, List.nil_append, Nat.zero_add] at hE)
    | ((with_reducible (show Go.wpList _ _ _ (Go.Oper.mk _ (.call { callee := .builtin .append, args := _, argTypes := _ }) _ _ _ _ :: _) _ _)); refine wpl_appendG hE 0 rfl rfl rfl rfl rfl Tryd.underlying75 info_str (by decide) (m := ys.length) (news := ys.map strv) (hb _ hE.tail) e2 o2 (by omega) (by omega) ?_; clear hE; intro a2 c2 w7 hE; simp only [List.set_cons_zero] at hE))
  rw [EN.out, EM.out] at hE
  rw [EN.out] at hn ⊢
  clear e1 e2 o1 o2 ha hb
  obtain ⟨LL, hEL, hall, hl⟩ : ∃ LL, Ent LL w7 ∧ Knows LL (reads (.slice a2 all.length c2) all.length (all.map strv)) ∧ ∃ m, LL = m ++ l := ⟨_, hE, fun w h => reads_row h 0 rfl, [_], rfl⟩
  clear hE
  have hE := hEL
  clear hEL
  have Hx := SL.hid hx
  clear hx
  go_loopw [6, 7] (fun o i wr => SoRelO all LL o i wr) (fun _ i _ => all.length - (intOf i).toNat)
  case atStart => exact ⟨0, none, 0, [], Nat.zero_le _, rfl, rfl, rfl, hE.nil _ _⟩
  case round =>
    clear hE
    obtain ⟨k, a3, c3, out, hkl, rfl, hout, rfl, hE⟩ := hrel
    have hol : out.length ≤ all.length := by
      have h1 := sortK_len (all.take k)
      rw [← hout, List.length_take] at h1
      omega
    by_cases hlt : k < all.length
    · obtain ⟨ba, oa, rfl, hz⟩ := str_at2 (hall _ hE.tail) hlt
      clear hz
      have f2 := SL.hid (show ∀ w, Ent (rowS a3 c3 out :: LL) w → w.cell? ⟨ba, oa + k, none⟩ = some (strv all[k]) from fun w h => by
        obtain ⟨b', o', e, h⟩ := str_at2 (hall w h.tail) hlt
        cases e
        exact h)
      have Hst := SL.hid (sortK_step hlt)
      rw [← hout] at Hst
      have hrise : RiseP out := by rw [hout]; exact sortK_rise _
      have Hri := SL.hid hrise
      have hkx := Hx.out all[k] (List.getElem_mem hlt)
      have Hmem := SL.hid (fun x (h : x ∈ out) => Hx.out x (List.mem_of_mem_take (i := k) (sortK_mem.1 (by rw [← hout]; exact h))))
      clear hrise hout
      simp only [strv] at f2
      generalize all[k] = key at *
      go_wp2
      go_loopw [8, 9] (fun a i wr => SoRelI out key (rowS a3 c3 out :: LL) a i wr) (fun a _ _ => out.length - (intOf a).toNat)
      case atStart => exact ⟨0, false, Nat.zero_le _, rfl, rfl, by simp, by simp, hE⟩
      case round =>
        clear hE
        obtain ⟨j, isb, hjl, rfl, rfl, hisb, hin, hE⟩ := hrel
        have Hisb := SL.hid hisb
        clear hisb
        have Hin := SL.hid hin
        clear hin
        by_cases hj : j < out.length
        case' pos =>
          obtain ⟨bo1, oo1, rfl, hz⟩ := str_at2 (reads_row hE 0 rfl) hj
          clear hz
          have f1 := SL.hid (show ∀ w, Ent (rowS (some ⟨bo1, oo1, none⟩) c3 out :: LL) w → w.cell? ⟨bo1, oo1 + j, none⟩ = some (strv out[j]) from fun w h => by
            obtain ⟨b', o', e, h⟩ := str_at2 (reads_row h 0 rfl) hj
            cases e
            exact h)
          have hxl := Hmem.out out[j] (List.getElem_mem hj)
          have HRO := SL.hid (fun (w : World) (h : Ent (rowS (some ⟨bo1, oo1, none⟩) c3 out :: LL) w) => rOrder_any (p := out[j]) (q := key) hxl hkx h)
          have Htk := SL.hid (List.take_succ_eq_append_getElem hj)
          have Hpl := SL.hid (fun (h2 : lessP key out[j] = true) => insP_at (k := key) (i := j) Hri.out hjl Hin.out (fun _ => h2))
          simp only [strv] at f1
          generalize out[j] = x at *
          have Hord := SL.hid (show (decide (ordP x key ≤ 0) = true → lessP x key = true ∨ x = key) ∧ (decide (ordP x key ≤ 0) = false → lessP key x = true) by
            constructor
            · intro h
              have h := of_decide_eq_true h
              unfold ordP at h
              split at h
              · exact .inl (by assumption)
              · split at h
                · exact absurd h (by decide)
                · next h1 h2 =>
                  right
                  apply Classical.byContradiction
                  intro hne
                  exact h2 (lessP_total hne (by simpa using h1))
            · intro h
              have h := of_decide_eq_false h
              unfold ordP at h
              split at h
              · exact absurd (by decide) h
              · split at h
                · assumption
                · exact absurd (by decide) h)
          generalize ordP x key = o at *
          cases hle : decide (o ≤ 0)
          case' true =>
            go_wp2
            refine wp_region_held_drew (S := (fun w' => ((Instr.loadAt 9 (.pointer (some ⟨bo1, oo1 + j, none⟩))).run Tryd.prog w' = .ok (.string ⟨x.toArray⟩) w') ∧ ((Instr.loadAt 9 (.pointer (some ⟨ba, oa + k, none⟩))).run Tryd.prog w' = .ok (.string ⟨key.toArray⟩) w'))) (by kernel_rfl) ⟨(atCell (f1.out _ hE.drew) (by simp [go_sem])), (atCell (f2.out _ hE.drew) (by simp [go_sem]))⟩ (fun hS => ?_)
            refine takeW 0 ⟨some 21, .move (.tmp 8), _, _, _, none⟩ ?_ (.inl ⟨by rfl, ?_⟩) hS ?_; rotate_left; · (intro _ _; go_simp; (try with_reducible rfl))
            try simp only [Act.put, sb, s0, sz]
            refine takeW 1 ⟨some 22, .move (.tmp 6), _, _, _, none⟩ ?_ (.inl ⟨by rfl, ?_⟩) hS ?_; rotate_left; · (intro _ _; go_simp; (try with_reducible rfl))
            try simp only [Act.put, sb, s0, sz]
            refine takeW 2 ⟨some 23, .call { callee := .builtin .len, args := #[.tmp 22], argTypes := #[75] }, _, _, _, none⟩ ?_ (.inl ⟨by rfl, ?_⟩) hS ?_; rotate_left; · (intro _ _; go_simp; (try with_reducible rfl))
            try simp only [Act.put, sb, s0, sz]
            refine takeW 3 ⟨some 24, .binOp .lss 3 (.tmp 21) (.tmp 23) 3, _, _, _, none⟩ ?_ (.inl ⟨by rfl, ?_⟩) hS ?_; rotate_left; · (intro _ _; go_simp; (try with_reducible rfl))
            try simp only [Act.put, sb, s0, sz]
            refine takeW 4 ⟨some 25, .move (.tmp 24), _, _, _, none⟩ ?_ (.inl ⟨by rfl, ?_⟩) hS ?_; rotate_left; · (intro _ _; go_simp; (try with_reducible rfl))
            try simp only [Act.put, sb, s0, sz]
            refine takeW 5 ⟨some 26, .move (.tmp 6), _, _, _, some (4, true)⟩ ?_ (.inl ⟨by rfl, ?_⟩) hS ?_; rotate_left; · (intro _ _; go_simp; (try with_reducible rfl))
            try simp only [Act.put, sb, s0, sz]
            refine takeW 6 ⟨some 27, .move (.tmp 8), _, _, _, some (4, true)⟩ ?_ (.inl ⟨by rfl, ?_⟩) hS ?_; rotate_left; · (intro _ _; go_simp; (try with_reducible rfl))
            try simp only [Act.put, sb, s0, sz]
            refine takeW 7 ⟨some 28, .indexAddr 75 (.tmp 26) (.tmp 27), _, _, _, some (4, true)⟩ ?_ (.inl ⟨by rfl, ?_⟩) hS ?_; rotate_left; · (intro _ _; go_simp; (try with_reducible rfl))
            try simp only [Act.put, sb, s0, sz]
            refine takeW 8 ⟨some 29, .load 9 (.tmp 28), _, _, _, some (4, true)⟩ ?_ (.inl ⟨by rfl, ?_⟩) hS ?_; rotate_left; · (intro w hSw; (try dsimp only at hSw); go_simp; (try with_reducible rfl))
            try simp only [Act.put, sb, s0, sz]
            refine takeW 9 ⟨some 30, .move (.tmp 5), _, _, _, some (4, true)⟩ ?_ (.inl ⟨by rfl, ?_⟩) hS ?_; rotate_left; · (intro _ _; go_simp; (try with_reducible rfl))
            try simp only [Act.put, sb, s0, sz]
            refine takeW 10 ⟨some 31, .move (.tmp 7), _, _, _, some (4, true)⟩ ?_ (.inl ⟨by rfl, ?_⟩) hS ?_; rotate_left; · (intro _ _; go_simp; (try with_reducible rfl))
            try simp only [Act.put, sb, s0, sz]
            refine takeW 11 ⟨some 32, .indexAddr 75 (.tmp 30) (.tmp 31), _, _, _, some (4, true)⟩ ?_ (.inl ⟨by rfl, ?_⟩) hS ?_; rotate_left; · (intro _ _; go_simp; (try with_reducible rfl))
            try simp only [Act.put, sb, s0, sz]
            refine takeW 12 ⟨some 33, .load 9 (.tmp 32), _, _, _, some (4, true)⟩ ?_ (.inl ⟨by rfl, ?_⟩) hS ?_; rotate_left; · (intro w hSw; (try dsimp only at hSw); go_simp; (try with_reducible rfl))
            try simp only [Act.put, sb, s0, sz]
            refine wpAnyH_ready (rs := [13]) (by kernel_rfl) (by simp) ?_
            refine (AllReadyH.cons (o := ⟨some 34, .call { callee := .value (.func 18), args := #[.tmp 29, .tmp 33], argTypes := #[9, 9] }, _, _, _, some (4, true)⟩) rfl (fun K hK => ?_) AllReadyH.nil)
            (go_simp; refine (HRO.out _ hE.drew).mono ?_; rintro e w5 ⟨v, rfl, rfl, hO⟩)
            refine hK.out _ _ ⟨(atCell (f1.out _ hO) (by simp [go_sem])), (atCell (f2.out _ hO) (by simp [go_sem]))⟩ (fun hS => ?_)
            clear hK K
            try simp only [Act.put, sb, s0, sz]
            refine takeW 14 ⟨some 35, .binOp .leq 3 (.tmp 34) (.const (.int .i64 0)) 3, _, _, _, some (4, true)⟩ ?_ (.inl ⟨by rfl, ?_⟩) hS ?_; rotate_left; · (intro _ _; go_simp; (try with_reducible rfl))
            try simp only [Act.put, sb, s0, sz]
            refine takeW 15 ⟨some 36, .pick (.tmp 25) (.tmp 35) (.const (.bool false)), _, _, _, none⟩ ?_ (.inl ⟨by rfl, ?_⟩) hS ?_; rotate_left; · (intro _ _; go_simp; (try with_reducible rfl))
            try simp only [Act.put, sb, s0, sz]
            refine wpAnyH_done (by kernel_rfl) ?_ _
            all_goals
              clear hS
              replace hE := hO
              clear hO
              have Hcon := SL.hid (show (out.take (j + 1)).contains key = (isb || x == key) by
                rw [Hisb.out, Htk.out, Bool.eq_iff_iff]
                simp only [List.contains_iff_mem, List.mem_append, List.mem_singleton, Bool.or_eq_true, beq_iff_eq]
                constructor
                · rintro (h | h)
                  · exact .inl h
                  · exact .inr h.symm
                · rintro (h | h)
                  · exact .inl h
                  · exact .inr h.symm)
              have Hnx := SL.hid (show ∀ y ∈ out.take (j + 1), lessP y key = true ∨ y = key from fun y hy => by
                rw [Htk.out] at hy
                rcases List.mem_append.1 hy with h | h
                · exact Hin.out y h
                · rw [List.mem_singleton.1 h]
                  exact Hord.out.1 hle)
              cases isb with
              | true =>
                go_wp2
                refine wp_region_held_drew (S := (fun w' => ((Instr.loadAt 9 (.pointer (some ⟨bo1, oo1 + j, none⟩))).run Tryd.prog w' = .ok (.string ⟨x.toArray⟩) w') ∧ ((Instr.loadAt 9 (.pointer (some ⟨ba, oa + k, none⟩))).run Tryd.prog w' = .ok (.string ⟨key.toArray⟩) w'))) (by kernel_rfl) ⟨(atCell (f1.out _ hE.drew) (by simp [go_sem])), (atCell (f2.out _ hE.drew) (by simp [go_sem]))⟩ (fun hS => ?_)
                refine takeW 0 ⟨some 37, .move (.tmp 9), _, _, _, none⟩ ?_ (.inl ⟨by rfl, ?_⟩) hS ?_; rotate_left; · (intro _ _; go_simp; (try with_reducible rfl))
                try simp only [Act.put, sb, s0, sz]
                refine takeW 1 ⟨some 38, .move (.tmp 37), _, _, _, none⟩ ?_ (.inl ⟨by rfl, ?_⟩) hS ?_; rotate_left; · (intro _ _; go_simp; (try with_reducible rfl))
                try simp only [Act.put, sb, s0, sz]
                refine takeW 2 ⟨some 39, .move (.tmp 6), _, _, _, some (1, false)⟩ undef (.inr ⟨by rfl, rfl⟩) hS ?_; try simp only [Act.put, sb, s0, sz]
                refine takeW 3 ⟨some 40, .move (.tmp 8), _, _, _, some (1, false)⟩ undef (.inr ⟨by rfl, rfl⟩) hS ?_; try simp only [Act.put, sb, s0, sz]
                refine takeW 4 ⟨some 41, .indexAddr 75 (.tmp 39) (.tmp 40), _, _, _, some (1, false)⟩ undef (.inr ⟨by rfl, rfl⟩) hS ?_; try simp only [Act.put, sb, s0, sz]
                refine takeW 5 ⟨some 42, .load 9 (.tmp 41), _, _, _, some (1, false)⟩ undef (.inr ⟨by rfl, rfl⟩) hS ?_; try simp only [Act.put, sb, s0, sz]
                refine takeW 6 ⟨some 43, .move (.tmp 5), _, _, _, some (1, false)⟩ undef (.inr ⟨by rfl, rfl⟩) hS ?_; try simp only [Act.put, sb, s0, sz]
                refine takeW 7 ⟨some 44, .move (.tmp 7), _, _, _, some (1, false)⟩ undef (.inr ⟨by rfl, rfl⟩) hS ?_; try simp only [Act.put, sb, s0, sz]
                refine takeW 8 ⟨some 45, .indexAddr 75 (.tmp 43) (.tmp 44), _, _, _, some (1, false)⟩ undef (.inr ⟨by rfl, rfl⟩) hS ?_; try simp only [Act.put, sb, s0, sz]
                refine takeW 9 ⟨some 46, .load 9 (.tmp 45), _, _, _, some (1, false)⟩ undef (.inr ⟨by rfl, rfl⟩) hS ?_; try simp only [Act.put, sb, s0, sz]
                refine takeW 10 ⟨some 47, .binOp .eql 9 (.tmp 42) (.tmp 46) 9, _, _, _, some (1, false)⟩ undef (.inr ⟨by rfl, rfl⟩) hS ?_; try simp only [Act.put, sb, s0, sz]
                refine takeW 11 ⟨some 48, .pick (.tmp 38) (.const (.bool true)) (.tmp 47), _, _, _, none⟩ ?_ (.inl ⟨by rfl, ?_⟩) hS ?_; rotate_left; · (intro _ _; go_simp; (try with_reducible rfl))
                try simp only [Act.put, sb, s0, sz]
                refine takeW 12 ⟨some 9, .assign (.tmp 48), _, _, _, none⟩ ?_ (.inl ⟨by rfl, ?_⟩) hS ?_; rotate_left; · (intro _ _; go_simp; (try with_reducible rfl))
                try simp only [Act.put, sb, s0, sz]
                refine wpAnyH_done (by kernel_rfl) ?_ _
                all_goals
                  clear hS
                  replace hE := hE.drew
                  go_wp2
                  go_roundw
                  case rel => exact ⟨j + 1, true, hj, by first | rfl | simp, rfl, by rw [Hcon.out]; rfl, Hnx.out, hE⟩
                  case measure => simp [intOf] <;> omega
              | false =>
                go_wp2
                refine wp_region_held_drew (S := (fun w' => ((Instr.loadAt 9 (.pointer (some ⟨bo1, oo1 + j, none⟩))).run Tryd.prog w' = .ok (.string ⟨x.toArray⟩) w') ∧ ((Instr.loadAt 9 (.pointer (some ⟨ba, oa + k, none⟩))).run Tryd.prog w' = .ok (.string ⟨key.toArray⟩) w'))) (by kernel_rfl) ⟨(atCell (f1.out _ hE.drew) (by simp [go_sem])), (atCell (f2.out _ hE.drew) (by simp [go_sem]))⟩ (fun hS => ?_)
                refine takeW 0 ⟨some 37, .move (.tmp 9), _, _, _, none⟩ ?_ (.inl ⟨by rfl, ?_⟩) hS ?_; rotate_left; · (intro _ _; go_simp; (try with_reducible rfl))
                try simp only [Act.put, sb, s0, sz]
                refine takeW 1 ⟨some 38, .move (.tmp 37), _, _, _, none⟩ ?_ (.inl ⟨by rfl, ?_⟩) hS ?_; rotate_left; · (intro _ _; go_simp; (try with_reducible rfl))
                try simp only [Act.put, sb, s0, sz]
                refine takeW 2 ⟨some 39, .move (.tmp 6), _, _, _, some (1, false)⟩ ?_ (.inl ⟨by rfl, ?_⟩) hS ?_; rotate_left; · (intro _ _; go_simp; (try with_reducible rfl))
                try simp only [Act.put, sb, s0, sz]
                refine takeW 3 ⟨some 40, .move (.tmp 8), _, _, _, some (1, false)⟩ ?_ (.inl ⟨by rfl, ?_⟩) hS ?_; rotate_left; · (intro _ _; go_simp; (try with_reducible rfl))
                try simp only [Act.put, sb, s0, sz]
                refine takeW 4 ⟨some 41, .indexAddr 75 (.tmp 39) (.tmp 40), _, _, _, some (1, false)⟩ ?_ (.inl ⟨by rfl, ?_⟩) hS ?_; rotate_left; · (intro _ _; go_simp; (try with_reducible rfl))
                try simp only [Act.put, sb, s0, sz]
                refine takeW 5 ⟨some 42, .load 9 (.tmp 41), _, _, _, some (1, false)⟩ ?_ (.inl ⟨by rfl, ?_⟩) hS ?_; rotate_left; · (intro w hSw; (try dsimp only at hSw); go_simp; (try with_reducible rfl))
                try simp only [Act.put, sb, s0, sz]
                refine takeW 6 ⟨some 43, .move (.tmp 5), _, _, _, some (1, false)⟩ ?_ (.inl ⟨by rfl, ?_⟩) hS ?_; rotate_left; · (intro _ _; go_simp; (try with_reducible rfl))
                try simp only [Act.put, sb, s0, sz]
                refine takeW 7 ⟨some 44, .move (.tmp 7), _, _, _, some (1, false)⟩ ?_ (.inl ⟨by rfl, ?_⟩) hS ?_; rotate_left; · (intro _ _; go_simp; (try with_reducible rfl))
                try simp only [Act.put, sb, s0, sz]
                refine takeW 8 ⟨some 45, .indexAddr 75 (.tmp 43) (.tmp 44), _, _, _, some (1, false)⟩ ?_ (.inl ⟨by rfl, ?_⟩) hS ?_; rotate_left; · (intro _ _; go_simp; (try with_reducible rfl))
                try simp only [Act.put, sb, s0, sz]
                refine takeW 9 ⟨some 46, .load 9 (.tmp 45), _, _, _, some (1, false)⟩ ?_ (.inl ⟨by rfl, ?_⟩) hS ?_; rotate_left; · (intro w hSw; (try dsimp only at hSw); go_simp; (try with_reducible rfl))
                try simp only [Act.put, sb, s0, sz]
                refine takeW 10 ⟨some 47, .binOp .eql 9 (.tmp 42) (.tmp 46) 9, _, _, _, some (1, false)⟩ ?_ (.inl ⟨by rfl, ?_⟩) hS ?_; rotate_left; · (intro _ _; go_simp; (try with_reducible rfl))
                try simp only [Act.put, sb, s0, sz]
                refine takeW 11 ⟨some 48, .pick (.tmp 38) (.const (.bool true)) (.tmp 47), _, _, _, none⟩ ?_ (.inl ⟨by rfl, ?_⟩) hS ?_; rotate_left; · (intro _ _; go_simp; (try with_reducible rfl))
                try simp only [Act.put, sb, s0, sz]
                refine takeW 12 ⟨some 9, .assign (.tmp 48), _, _, _, none⟩ ?_ (.inl ⟨by rfl, ?_⟩) hS ?_; rotate_left; · (intro _ _; go_simp; (try with_reducible rfl))
                try simp only [Act.put, sb, s0, sz]
                refine wpAnyH_done (by kernel_rfl) ?_ _
                all_goals
                  clear hS
                  replace hE := hE.drew
                  go_wp2
                  go_roundw
                  case rel => exact ⟨j + 1, x == key, hj, by first | rfl | simp, rfl, by rw [Hcon.out]; rfl, Hnx.out, hE⟩
                  case measure => simp [intOf] <;> omega
          case' false =>
            have Hins := SL.hid (Hpl.out (Hord.out.2 hle))
            clear hkx hxl
            go_wp2
            refine wp_region_held_drew (S := (fun w' => ((Instr.loadAt 9 (.pointer (some ⟨bo1, oo1 + j, none⟩))).run Tryd.prog w' = .ok (.string ⟨x.toArray⟩) w') ∧ ((Instr.loadAt 9 (.pointer (some ⟨ba, oa + k, none⟩))).run Tryd.prog w' = .ok (.string ⟨key.toArray⟩) w'))) (by kernel_rfl) ⟨(atCell (f1.out _ hE.drew) (by simp [go_sem])), (atCell (f2.out _ hE.drew) (by simp [go_sem]))⟩ (fun hS => ?_)
            refine takeW 0 ⟨some 21, .move (.tmp 8), _, _, _, none⟩ ?_ (.inl ⟨by rfl, ?_⟩) hS ?_; rotate_left; · (intro _ _; go_simp; (try with_reducible rfl))
            try simp only [Act.put, sb, s0, sz]
            refine takeW 1 ⟨some 22, .move (.tmp 6), _, _, _, none⟩ ?_ (.inl ⟨by rfl, ?_⟩) hS ?_; rotate_left; · (intro _ _; go_simp; (try with_reducible rfl))
            try simp only [Act.put, sb, s0, sz]
            refine takeW 2 ⟨some 23, .call { callee := .builtin .len, args := #[.tmp 22], argTypes := #[75] }, _, _, _, none⟩ ?_ (.inl ⟨by rfl, ?_⟩) hS ?_; rotate_left; · (intro _ _; go_simp; (try with_reducible rfl))
            try simp only [Act.put, sb, s0, sz]
            refine takeW 3 ⟨some 24, .binOp .lss 3 (.tmp 21) (.tmp 23) 3, _, _, _, none⟩ ?_ (.inl ⟨by rfl, ?_⟩) hS ?_; rotate_left; · (intro _ _; go_simp; (try with_reducible rfl))
            try simp only [Act.put, sb, s0, sz]
            refine takeW 4 ⟨some 25, .move (.tmp 24), _, _, _, none⟩ ?_ (.inl ⟨by rfl, ?_⟩) hS ?_; rotate_left; · (intro _ _; go_simp; (try with_reducible rfl))
            try simp only [Act.put, sb, s0, sz]
            refine takeW 5 ⟨some 26, .move (.tmp 6), _, _, _, some (4, true)⟩ ?_ (.inl ⟨by rfl, ?_⟩) hS ?_; rotate_left; · (intro _ _; go_simp; (try with_reducible rfl))
            try simp only [Act.put, sb, s0, sz]
            refine takeW 6 ⟨some 27, .move (.tmp 8), _, _, _, some (4, true)⟩ ?_ (.inl ⟨by rfl, ?_⟩) hS ?_; rotate_left; · (intro _ _; go_simp; (try with_reducible rfl))
            try simp only [Act.put, sb, s0, sz]
            refine takeW 7 ⟨some 28, .indexAddr 75 (.tmp 26) (.tmp 27), _, _, _, some (4, true)⟩ ?_ (.inl ⟨by rfl, ?_⟩) hS ?_; rotate_left; · (intro _ _; go_simp; (try with_reducible rfl))
            try simp only [Act.put, sb, s0, sz]
            refine takeW 8 ⟨some 29, .load 9 (.tmp 28), _, _, _, some (4, true)⟩ ?_ (.inl ⟨by rfl, ?_⟩) hS ?_; rotate_left; · (intro w hSw; (try dsimp only at hSw); go_simp; (try with_reducible rfl))
            try simp only [Act.put, sb, s0, sz]
            refine takeW 9 ⟨some 30, .move (.tmp 5), _, _, _, some (4, true)⟩ ?_ (.inl ⟨by rfl, ?_⟩) hS ?_; rotate_left; · (intro _ _; go_simp; (try with_reducible rfl))
            try simp only [Act.put, sb, s0, sz]
            refine takeW 10 ⟨some 31, .move (.tmp 7), _, _, _, some (4, true)⟩ ?_ (.inl ⟨by rfl, ?_⟩) hS ?_; rotate_left; · (intro _ _; go_simp; (try with_reducible rfl))
            try simp only [Act.put, sb, s0, sz]
            refine takeW 11 ⟨some 32, .indexAddr 75 (.tmp 30) (.tmp 31), _, _, _, some (4, true)⟩ ?_ (.inl ⟨by rfl, ?_⟩) hS ?_; rotate_left; · (intro _ _; go_simp; (try with_reducible rfl))
            try simp only [Act.put, sb, s0, sz]
            refine takeW 12 ⟨some 33, .load 9 (.tmp 32), _, _, _, some (4, true)⟩ ?_ (.inl ⟨by rfl, ?_⟩) hS ?_; rotate_left; · (intro w hSw; (try dsimp only at hSw); go_simp; (try with_reducible rfl))
            try simp only [Act.put, sb, s0, sz]
            refine wpAnyH_ready (rs := [13]) (by kernel_rfl) (by simp) ?_
            refine (AllReadyH.cons (o := ⟨some 34, .call { callee := .value (.func 18), args := #[.tmp 29, .tmp 33], argTypes := #[9, 9] }, _, _, _, some (4, true)⟩) rfl (fun K hK => ?_) AllReadyH.nil)
            (go_simp; refine (HRO.out _ hE.drew).mono ?_; rintro e w5 ⟨v, rfl, rfl, hO⟩)
            refine hK.out _ _ ⟨(atCell (f1.out _ hO) (by simp [go_sem])), (atCell (f2.out _ hO) (by simp [go_sem]))⟩ (fun hS => ?_)
            clear hK K
            try simp only [Act.put, sb, s0, sz]
            refine takeW 14 ⟨some 35, .binOp .leq 3 (.tmp 34) (.const (.int .i64 0)) 3, _, _, _, some (4, true)⟩ ?_ (.inl ⟨by rfl, ?_⟩) hS ?_; rotate_left; · (intro _ _; go_simp; (try with_reducible rfl))
            try simp only [Act.put, sb, s0, sz]
            refine takeW 15 ⟨some 36, .pick (.tmp 25) (.tmp 35) (.const (.bool false)), _, _, _, none⟩ ?_ (.inl ⟨by rfl, ?_⟩) hS ?_; rotate_left; · (intro _ _; go_simp; (try with_reducible rfl))
            try simp only [Act.put, sb, s0, sz]
            refine wpAnyH_done (by kernel_rfl) ?_ _
            all_goals
              clear hS
              replace hE := hO
              clear hO HRO hle Hord Hpl
        case' neg =>
          have Hins := SL.hid (insP_at (k := key) (i := j) Hri.out hjl Hin.out (fun h => absurd h hj))
          clear hkx
          go_wp2
          refine wp_region_held_drew (S := (fun _ => True)) (by kernel_rfl) trivial (fun hS => ?_)
          refine takeW 0 ⟨some 21, .move (.tmp 8), _, _, _, none⟩ ?_ (.inl ⟨by rfl, ?_⟩) hS ?_; rotate_left; · (intro _ _; go_simp; (try with_reducible rfl))
          try simp only [Act.put, sb, s0, sz]
          refine takeW 1 ⟨some 22, .move (.tmp 6), _, _, _, none⟩ ?_ (.inl ⟨by rfl, ?_⟩) hS ?_; rotate_left; · (intro _ _; go_simp; (try with_reducible rfl))
          try simp only [Act.put, sb, s0, sz]
          refine takeW 2 ⟨some 23, .call { callee := .builtin .len, args := #[.tmp 22], argTypes := #[75] }, _, _, _, none⟩ ?_ (.inl ⟨by rfl, ?_⟩) hS ?_; rotate_left; · (intro _ _; go_simp; (try with_reducible rfl))
          try simp only [Act.put, sb, s0, sz]
          refine takeW 3 ⟨some 24, .binOp .lss 3 (.tmp 21) (.tmp 23) 3, _, _, _, none⟩ ?_ (.inl ⟨by rfl, ?_⟩) hS ?_; rotate_left; · (intro _ _; go_simp; (try with_reducible rfl))
          try simp only [Act.put, sb, s0, sz]
          refine takeW 4 ⟨some 25, .move (.tmp 24), _, _, _, none⟩ ?_ (.inl ⟨by rfl, ?_⟩) hS ?_; rotate_left; · (intro _ _; go_simp; (try with_reducible rfl))
          try simp only [Act.put, sb, s0, sz]
          refine takeW 5 ⟨some 26, .move (.tmp 6), _, _, _, some (4, true)⟩ undef (.inr ⟨by rfl, rfl⟩) hS ?_; try simp only [Act.put, sb, s0, sz]
          refine takeW 6 ⟨some 27, .move (.tmp 8), _, _, _, some (4, true)⟩ undef (.inr ⟨by rfl, rfl⟩) hS ?_; try simp only [Act.put, sb, s0, sz]
          refine takeW 7 ⟨some 28, .indexAddr 75 (.tmp 26) (.tmp 27), _, _, _, some (4, true)⟩ undef (.inr ⟨by rfl, rfl⟩) hS ?_; try simp only [Act.put, sb, s0, sz]
          refine takeW 8 ⟨some 29, .load 9 (.tmp 28), _, _, _, some (4, true)⟩ undef (.inr ⟨by rfl, rfl⟩) hS ?_; try simp only [Act.put, sb, s0, sz]
          refine takeW 9 ⟨some 30, .move (.tmp 5), _, _, _, some (4, true)⟩ undef (.inr ⟨by rfl, rfl⟩) hS ?_; try simp only [Act.put, sb, s0, sz]
          refine takeW 10 ⟨some 31, .move (.tmp 7), _, _, _, some (4, true)⟩ undef (.inr ⟨by rfl, rfl⟩) hS ?_; try simp only [Act.put, sb, s0, sz]
          refine takeW 11 ⟨some 32, .indexAddr 75 (.tmp 30) (.tmp 31), _, _, _, some (4, true)⟩ undef (.inr ⟨by rfl, rfl⟩) hS ?_; try simp only [Act.put, sb, s0, sz]
          refine takeW 12 ⟨some 33, .load 9 (.tmp 32), _, _, _, some (4, true)⟩ undef (.inr ⟨by rfl, rfl⟩) hS ?_; try simp only [Act.put, sb, s0, sz]
          refine takeW 13 ⟨some 34, .call { callee := .value (.func 18), args := #[.tmp 29, .tmp 33], argTypes := #[9, 9] }, _, _, _, some (4, true)⟩ undef (.inr ⟨by rfl, rfl⟩) hS ?_; try simp only [Act.put, sb, s0, sz]
          refine takeW 14 ⟨some 35, .binOp .leq 3 (.tmp 34) (.const (.int .i64 0)) 3, _, _, _, some (4, true)⟩ undef (.inr ⟨by rfl, rfl⟩) hS ?_; try simp only [Act.put, sb, s0, sz]
          refine takeW 15 ⟨some 36, .pick (.tmp 25) (.tmp 35) (.const (.bool false)), _, _, _, none⟩ ?_ (.inl ⟨by rfl, ?_⟩) hS ?_; rotate_left; · (intro _ _; go_simp; (try with_reducible rfl))
          try simp only [Act.put, sb, s0, sz]
          refine wpAnyH_done (by kernel_rfl) ?_ _
          all_goals
            clear hS
            replace hE := hE.drew
        all_goals
          cases isb with
          | true =>
            rw [if_pos (by have := Hisb.out; simpa [List.contains_iff_mem] using this.symm)] at Hins
            go_wp2
            go_roundw
            case rel => exact ⟨k + 1, _, _, out, hlt, by first | rfl | simp, by rw [Hst.out, Hins.out], rfl, hE⟩
            case measure => simp [intOf] <;> omega
          | false =>
            rw [if_neg (by have := Hisb.out; simpa [List.contains_iff_mem] using this.symm)] at Hins
            obtain ⟨hs1, hs2, hr1, hr2⟩ := row_parts hE hjl
            have Hr1 := SL.hid hr1
            have Hr2 := SL.hid hr2
            clear hr1 hr2
            have T1 := SL.hid True.intro
            have T2 := SL.hid True.intro
            go_wp2_with (first
              | go_skip
              | ((with_reducible (show Go.wpList _ _ _ (Go.Oper.mk _ (.call { callee := .builtin .append, args := _, argTypes := _ }) _ _ _ _ :: _) _ _)); clear T1; refine wpl_appendG (hE.nil 9 1) 0 rfl rfl rfl rfl rfl Tryd.underlying75 info_str (by decide) (m := j) (news := (out.take j).map strv) (Hr1.out _ hE) (by simp; omega) strv_one (by omega) (by omega) ?_; have h2 := fun w h => atCell (t := 9) (P := Tryd.prog) (f2.out w h) (by simp [go_sem]); clear hE; intro a5 c5 w8 hE; simp only [List.set_cons_zero, List.nil_append, Nat.zero_add] at hE; replace h2 := h2 _ hE.tail)
              | ((with_reducible (show Go.wpList _ _ _ (Go.Oper.mk _ (.call { callee := .builtin .append, args := _, argTypes := _ }) _ _ _ _ :: _) _ _)); clear T2 h2; have hE9 := hE.alloc (.cells #[.string ⟨key.toArray⟩] 9); refine wpl_appendG hE9 1 rfl rfl rfl rfl rfl Tryd.underlying75 info_str (by decide) (m := 1) (news := [strv key]) (reads_pt hE9 0 rfl (off := 0) (fun j u hu => by rw [Nat.zero_add, List.getElem?_toArray]; exact hu)) rfl (by simp [strv, Value.oneCell']) (by omega) (by omega) ?_; clear hE9 hE; intro a6 c6 w9 hE10; simp only [List.set_cons_zero, List.set_cons_succ] at hE10; have hE := hE10.tail; clear hE10)
              | ((with_reducible (show Go.wpList _ _ _ (Go.Oper.mk _ (.call { callee := .builtin .append, args := _, argTypes := _ }) _ _ _ _ :: _) _ _)); refine wpl_appendG hE 0 rfl rfl rfl rfl rfl Tryd.underlying75 info_str (by decide) (m := out.length - j) (news := (out.drop j).map strv) (Hr2.out _ hE.tail) (by simp) strv_one (by omega) (by omega) ?_; clear hE; intro a7 c7 w10 hE; simp only [List.set_cons_zero] at hE))
            go_roundw
            case rel =>
              have e1 : j + 1 + (out.length - j) = (List.take j out ++ key :: List.drop j out).length := by simp; omega
              have e2 : (List.take j out).map strv ++ [strv key] ++ (List.drop j out).map strv = (List.take j out ++ key :: List.drop j out).map strv := by simp
              rw [e1, e2] at hE
              exact ⟨k + 1, a7, c7, out.take j ++ key :: out.drop j, hlt, by first | rfl | simp, by rw [Hst.out, Hins.out], by rw [e1], hE.erase 1⟩
            case measure => simp [intOf] <;> omega
    · obtain rfl : k = all.length := by omega
      rw [List.take_length] at hout
      subst hout
      obtain ⟨m, hl⟩ := hl
      subst hl
      go_wp2
      go_ret
      exact ⟨_, rfl, a3, c3, m, rfl, hE⟩
end Go.Proofs.YtcpgelpajppgdaaDoor
namespace Go.Proofs.YtcpgelpajppgdaaDoor
open Go.RowKit Go.SL

/-- a pointer to what there is -/
def ptrE {α : Type} (L : List HProp) (enc : α → List Value) : Option α → Value → Prop
  | none, p => p = .pointer none
  | some x, p => ∃ b off, p = .pointer (some ⟨b, off, none⟩) ∧ ∀ w, Ent L w → ∀ j v, (enc x)[j]? = some v → w.cell? ⟨b, off + j, none⟩ = some v
theorem ord_cases (p q : List UInt8) : (ordP p q = -1 ∧ lessP p q = true) ∨ (ordP p q = 1 ∧ lessP p q = false ∧ lessP q p = true) ∨ (ordP p q = 0 ∧ lessP p q = false ∧ lessP q p = false) := by
  unfold ordP
  cases h1 : lessP p q <;> cases h2 : lessP q p <;> simp
def lenV : Value → Nat
  | .slice _ n _ => n
  | _ => 0
/-- the first of a row, and the rest -/
theorem row_en {L : List HProp} {ao : Option Addr} {c : Nat} {x : En} {xs : List En} (hc : xs.length + 1 ≤ c) (h : Knows L (reads (.slice ao (x :: xs).length c) (x :: xs).length ((x :: xs).flatMap enC))) {w : World} (hE : Ent L w) :
    ∃ b off, ao = some ⟨b, off, none⟩ ∧ ptrE L enC (some x) (.pointer (some ⟨b, off, none⟩)) ∧ Knows L (reads (.slice (cutAt 3 (some ⟨b, off, none⟩) c 1) xs.length (c - 1)) xs.length (xs.flatMap enC)) ∧
      (∀ w, (Instr.sliceAt 22 (.slice (some ⟨b, off, none⟩) (xs.length + 1) c) (some (.int .i64 1)) none none).run Tryd.prog w = .ok (.slice (cutAt 3 (some ⟨b, off, none⟩) c 1) xs.length (c - 1)) w) ∧
      (∀ w, Ent L w → (Instr.loadAt 63 (.pointer (some ⟨b, off, none⟩))).run Tryd.prog w = .ok (.agg (enC x).toArray) w) := by
  obtain ⟨b, off, rfl, hz⟩ := en_at (h _ hE) (k := 0) (by simp)
  have key : ∀ w, Ent L w → ∀ j v, (enC x)[j]? = some v → w.cell? ⟨b, off + j, none⟩ = some v := fun w hw j v hj => by
    obtain ⟨b', off', e, h2⟩ := en_at (h _ hw) (k := 0) (by simp)
    cases e
    have := h2 j v hj
    simpa using this
  refine ⟨b, off, rfl, ⟨b, off, rfl, key⟩, fun w hw => ?_, fun w => ?_, fun w hw => ?_⟩
  · have := reads_behind (size := 3) (h w hw) (enC_flat_len _) (by simpa using hc) (k := 1) (by simp)
    rw [Nat.one_mul, show (x :: xs).length - 1 = xs.length from rfl, List.flatMap_cons, show ((enC x) ++ xs.flatMap enC).drop 3 = xs.flatMap enC from List.drop_left' rfl] at this
    exact this
  · rw [sliceAt_slice Tryd.underlying22, show (1 : Int) = ((1 : Nat) : Int) from rfl, run_cut_lo Tryd.underlying22 Tryd.sizeOf63 _ _ c .i64 1 (by omega)]
    rfl
  · exact atCells Tryd.isAgg63 Tryd.sizeOf63 (enC x) rfl (fun j v hv => by rw [Addr.add_lit]; exact key w hw j v hv)
/-- the first of a row, and the rest -/
theorem row_ch {L : List HProp} {ao : Option Addr} {c : Nat} {x : Ch} {xs : List Ch} (hc : xs.length + 1 ≤ c) (h : Knows L (reads (.slice ao (x :: xs).length c) (x :: xs).length ((x :: xs).flatMap chC))) {w : World} (hE : Ent L w) :
    ∃ b off, ao = some ⟨b, off, none⟩ ∧ ptrE L chC (some x) (.pointer (some ⟨b, off, none⟩)) ∧ Knows L (reads (.slice (cutAt 7 (some ⟨b, off, none⟩) c 1) xs.length (c - 1)) xs.length (xs.flatMap chC)) ∧
      (∀ w, (Instr.sliceAt 30 (.slice (some ⟨b, off, none⟩) (xs.length + 1) c) (some (.int .i64 1)) none none).run Tryd.prog w = .ok (.slice (cutAt 7 (some ⟨b, off, none⟩) c 1) xs.length (c - 1)) w) ∧
      (∀ w, Ent L w → (Instr.loadAt 65 (.pointer (some ⟨b, off, none⟩))).run Tryd.prog w = .ok (.agg (chC x).toArray) w) := by
  obtain ⟨b, off, rfl, hz⟩ := ch_at (h _ hE) (k := 0) (by simp)
  have key : ∀ w, Ent L w → ∀ j v, (chC x)[j]? = some v → w.cell? ⟨b, off + j, none⟩ = some v := fun w hw j v hj => by
    obtain ⟨b', off', e, h2⟩ := ch_at (h _ hw) (k := 0) (by simp)
    cases e
    have := h2 j v hj
    simpa using this
  refine ⟨b, off, rfl, ⟨b, off, rfl, key⟩, fun w hw => ?_, fun w => ?_, fun w hw => ?_⟩
  · have := reads_behind (size := 7) (h w hw) (chC_flat_len _) (by simpa using hc) (k := 1) (by simp)
    rw [Nat.one_mul, show (x :: xs).length - 1 = xs.length from rfl, List.flatMap_cons, show ((chC x) ++ xs.flatMap chC).drop 7 = xs.flatMap chC from List.drop_left' rfl] at this
    exact this
  · rw [sliceAt_slice Tryd.underlying30, show (1 : Int) = ((1 : Nat) : Int) from rfl, run_cut_lo Tryd.underlying30 Tryd.sizeOf65 _ _ c .i64 1 (by omega)]
    rfl
  · exact atCells Tryd.isAgg65 Tryd.sizeOf65 (chC x) rfl (fun j v hv => by rw [Addr.add_lit]; exact key w hw j v hv)
set_option maxRecDepth 100000 in
theorem changed_any (x : Ch) {l : List HProp} {w : World} (hE : Ent l w) :
    Calls Tryd.prog 44 #[.agg (chC x).toArray] w (Ret fun v w' => v = .string ⟨x.path.toArray⟩ ∧ Ent l w') := by
  simp only [chC]
  go_enter Tryd.func44, Tryd.ntmps44
  go_wp2_with (first
    | go_skip
    | ((with_reducible (show Go.wpList _ _ _ (Go.Oper.mk _ (.box _ _) _ _ _ _ :: _) _ _)); refine wpl_box hE rfl rfl rfl ?_; clear hE; intro b1 w hE; simp only [Act.eval, Act.put, List.setIfInBounds_toArray, List.set_cons_zero, List.set_cons_succ, getD_lit, List.getD_cons_succ, List.getD_cons_zero, Value.cells] at hE)
    | ((with_reducible (show Go.wpList _ _ _ (Go.Oper.mk _ (.load _ _) _ _ _ _ :: _) _ _)); (first | (refine wpl_load1 hE 0 rfl rfl rfl rfl (by simp [go_sem]) rfl ?_) | (refine wpl_load1 hE 1 rfl rfl rfl rfl (by simp [go_sem]) rfl ?_) | (refine wpl_load1 hE 2 rfl rfl rfl rfl (by simp [go_sem]) rfl ?_) | (refine wpl_load1 hE 3 rfl rfl rfl rfl (by simp [go_sem]) rfl ?_) | (refine wpl_load1 hE 4 rfl rfl rfl rfl (by simp [go_sem]) rfl ?_) | (refine wpl_load1 hE 5 rfl rfl rfl rfl (by simp [go_sem]) rfl ?_) | (refine wpl_load1 hE 6 rfl rfl rfl rfl (by simp [go_sem]) rfl ?_) | (refine wpl_load1 hE 7 rfl rfl rfl rfl (by simp [go_sem]) rfl ?_))))
  go_ret
  exact ⟨_, rfl, rfl, hE.tail⟩
end Go.Proofs.YtcpgelpajppgdaaDoor
namespace Go.Proofs.YtcpgelpajppgdaaDoor
open Go.RowKit Go.SL

theorem sd_beq (t u d e : Bool) (x y : List UInt8) : ((⟨t, d, x⟩ : Sd) == ⟨u, e, y⟩) = (t == u && (d == e && x == y)) := by
  rw [Bool.eq_iff_iff]
  simp [Sd.mk.injEq]
theorem eqSd (n : Nat) (a b : Sd) (w : World) : (Op.equalIn (n + 2) 36 (.agg (sdC a).toArray) (.agg (sdC b).toArray)).run Tryd.prog w = .ok (a == b) w := by
  obtain ⟨t, d, x⟩ := a
  obtain ⟨u, e, y⟩ := b
  have h := run_equalIn_agg (P := Tryd.prog) (w := w) (n + 1) 36 #[.bool t, .bool d, .string ⟨x.toArray⟩] #[.bool u, .bool e, .string ⟨y.toArray⟩] (by kernel_rfl) (by kernel_rfl)
  refine h.trans ?_
  rw [sd_beq]
  cases hxy : (x == y) <;> cases t <;> cases u <;> cases d <;> cases e <;> simp [go_sem, hxy]
theorem eqSr (n : Nat) (a b : Sd) (w : World) : (Op.equalIn (n + 2) 39 (.agg (sdC a).toArray) (.agg (sdC b).toArray)).run Tryd.prog w = .ok (a == b) w := by
  obtain ⟨t, d, x⟩ := a
  obtain ⟨u, e, y⟩ := b
  have h := run_equalIn_agg (P := Tryd.prog) (w := w) (n + 1) 39 #[.bool t, .bool d, .string ⟨x.toArray⟩] #[.bool u, .bool e, .string ⟨y.toArray⟩] (by kernel_rfl) (by kernel_rfl)
  refine h.trans ?_
  rw [sd_beq]
  cases hxy : (x == y) <;> cases t <;> cases u <;> cases d <;> cases e <;> simp [go_sem, hxy]
attribute [-go_sem] Go.run_equalIn_agg in
theorem eqCh (a b : Ch) (w : World) : (Op.equalIn 10000 65 (.agg (chC a).toArray) (.agg (chC b).toArray)).run Tryd.prog w = .ok (a == b) w := by
  have h := run_equalIn_agg (P := Tryd.prog) (w := w) 9999 65 (chC a).toArray (chC b).toArray (by kernel_rfl) (by kernel_rfl)
  refine h.trans ?_
  have e1 := fun w => eqSd 9997 a.was b.was w
  have e2 := fun w => eqSd 9997 a.now b.now w
  have e : (a == b) = (a.path == b.path && (a.was == b.was && a.now == b.now)) := by
    obtain ⟨p, x, y⟩ := a
    obtain ⟨q, u, v⟩ := b
    rw [Bool.eq_iff_iff]
    simp [Ch.mk.injEq]
  rw [e]
  simp only [sdC] at e1 e2
  cases hp : (a.path == b.path) <;> cases hw : (a.was == b.was) <;> cases hn : (a.now == b.now) <;> rw [hw] at e1 <;> rw [hn] at e2 <;> simp [go_sem, chC, hp, e1, e2]
end Go.Proofs.YtcpgelpajppgdaaDoor
namespace Go.Proofs.YtcpgelpajppgdaaDoor
open Go.RowKit Go.SL

def rowCh (ao : Option Addr) (c : Nat) (xs : List Ch) : HProp := row 65 7 (.slice ao xs.length c) xs.length (xs.flatMap chC)
theorem info_ch : elemInfo Tryd.prog 65 = some (some 7, 7, 64) := by kernel_rfl
theorem zs_ch : zeroSize Tryd.prog 65 = some 7 := by kernel_rfl
theorem ent_facts {L0 : List HProp} {a : En} {b off : Nat} (hx : ∀ w, Ent L0 w → ∀ j v, (enC a)[j]? = some v → w.cell? ⟨b, off + j, none⟩ = some v) {L : List HProp} (hs : L0 <:+ L) : ∀ w, Ent L w → (Instr.loadAt 4 (.pointer (some ⟨b, off + 1, none⟩))).run Tryd.prog w = .ok (.bool a.dir) w ∧ (Instr.loadAt 9 (.pointer (some ⟨b, off + 2, none⟩))).run Tryd.prog w = .ok (.string ⟨a.data.toArray⟩) w := fun w h =>
  ⟨atCell (hx w (h.suf hs) 1 _ rfl) (by simp [go_sem]), atCell (hx w (h.suf hs) 2 _ rfl) (by simp [go_sem])⟩
def diffO (p : Option En × Option En) : Option Ch := chg (keyB En.path En.path p) (sideO p.1) (sideO p.2)
theorem rowCh_add {ao : Option Addr} {c : Nat} {out : List Ch} {x : Ch} : row 65 7 (.slice ao (out.length + 1) c) (out.length + 1) (out.flatMap chC ++ chC x) = rowCh ao c (out ++ [x]) := by
  simp [rowCh]
def D1Post (p1 : Nat) (out' : List Ch) (L0 : List HProp) (w' : World) : Prop := ∃ ao c, Ent (pt p1 (.cells #[.slice ao out'.length c] 30) :: rowCh ao c out' :: L0) w'

set_option maxRecDepth 100000 in
set_option maxHeartbeats 4000000 in
attribute [-go_sem] Instr.loadAt Go.run_equalIn_agg in
theorem diff1_xy {L0 : List HProp} {a : En} {bx ox : Nat} (hx : ∀ w, Ent L0 w → ∀ j v, (enC a)[j]? = some v → w.cell? ⟨bx, ox + j, none⟩ = some v) {b : En} {b_y oy : Nat} (hy : ∀ w, Ent L0 w → ∀ j v, (enC b)[j]? = some v → w.cell? ⟨b_y, oy + j, none⟩ = some v) {p1 : Nat} {ao : Option Addr} {c : Nat} {out : List Ch} (hn : out.length ≤ 1000000) {w : World} (hE : Ent (pt p1 (.cells #[.slice ao out.length c] 30) :: rowCh ao c out :: L0) w) :
    Calls Tryd.prog 32 #[.pointer (some ⟨bx, ox, none⟩), .pointer (some ⟨b_y, oy, none⟩), .pointer (some ⟨p1, 0, none⟩)] w (Ret fun _ w' => D1Post p1 (out ++ (diffO (some a, some b)).toList) L0 w') := by
  have HX := SL.hid hx
  clear hx
  have HY := SL.hid hy
  clear hy
  have hEq : ∀ w, (Op.equalIn 10000 36 (.agg #[.bool true, .bool a.dir, .string ⟨a.data.toArray⟩]) (.agg #[.bool true, .bool b.dir, .string ⟨b.data.toArray⟩])).run Tryd.prog w = .ok ((⟨true, a.dir, a.data⟩ : Sd) == ⟨true, b.dir, b.data⟩) w := fun w => eqSd 9998 ⟨true, a.dir, a.data⟩ ⟨true, b.dir, b.data⟩ w
  have HR := SL.hid (show diffO (some a, some b) = if ((⟨true, a.dir, a.data⟩ : Sd) == ⟨true, b.dir, b.data⟩) = true then none else some ⟨a.path, ⟨true, a.dir, a.data⟩, ⟨true, b.dir, b.data⟩⟩ by by_cases h : (⟨true, a.dir, a.data⟩ : Sd) = ⟨true, b.dir, b.data⟩ <;> simp [diffO, keyB, sideO, chg, h])
  generalize ((⟨true, a.dir, a.data⟩ : Sd) == ⟨true, b.dir, b.data⟩) = eq at *
  have T1 := SL.hid True.intro
  cases eq with
  | true =>
    rw [if_pos rfl] at HR
    go_enter Tryd.func32, Tryd.ntmps32
    go_wp2_with (first
      | go_skip
      | (clear T1; (go_at_call 33; have H := entry_some (x := a) (b := bx) (off := ox) (ent_facts HX.out sfx) hE; refine H.mono ?_; clear H; rintro e w2 ⟨v, h1, h2, hE⟩; cases h1; cases h2; try simp only [sdV]))
      | (go_at_call 33; have H := entry_some (x := b) (b := b_y) (off := oy) (ent_facts HY.out sfx) hE; refine H.mono ?_; clear H; rintro e w2 ⟨v, h1, h2, hE⟩; cases h1; cases h2; try simp only [sdV])
      | ((with_reducible (show Go.wpList _ _ _ (Go.Oper.mk _ (.alloc _) _ _ _ _ :: _) _ _)); refine wpl_alloc hE rfl rfl (by simp [go_sem]; rfl) ?_; clear hE; intro b5 w hE; simp only [Act.eval, Act.put, List.setIfInBounds_toArray, List.set_cons_zero, List.set_cons_succ, getD_lit, List.getD_cons_succ, List.getD_cons_zero, Value.cells] at hE)
      | ((with_reducible (show Go.wpList _ _ _ (Go.Oper.mk _ (.store 65 _ _) _ _ _ _ :: _) _ _)); refine wpl_storeW hE 0 rfl rfl rfl (xs := [.string ⟨#[]⟩, .bool true, .bool a.dir, .string ⟨a.data.toArray⟩, .bool true, .bool b.dir, .string ⟨b.data.toArray⟩]) rfl rfl Tryd.sizeOf65 rfl (by simp [Value.oneCell']) rfl ?_; clear hE; intro w8 hE; simp only [List.set_cons_zero] at hE; have hp := atCell (t := 9) (P := Tryd.prog) (HX.out _ (hE.suf sfx) 0 _ rfl) (by simp [go_sem]); simp only [Nat.add_zero] at hp)
      | ((with_reducible (show Go.wpList _ _ _ (Go.Oper.mk _ (.store 9 _ _) _ _ _ _ :: _) _ _)); clear hp; refine wpl_st1 hE 0 rfl rfl rfl rfl rfl (by first | (simp [go_sem]; done) | (simp [go_sem]; rfl)) rfl rfl (by simp) ?_; clear hE; intro w7 hE; simp only [List.set_cons_zero, List.set_cons_succ] at hE)
      | ((with_reducible (show Go.wpList _ _ _ (Go.Oper.mk _ (.load 36 _) _ _ _ _ :: _) _ _)); first | refine wpl_loadA hE 0 rfl rfl rfl (off := 1) rfl Tryd.isAgg36 Tryd.sizeOf36 [.bool true, .bool a.dir, .string ⟨a.data.toArray⟩] rfl (fun j hj => by match j, hj with | 0, _ => rfl | 1, _ => rfl | 2, _ => rfl) ?_ | refine wpl_loadA hE 0 rfl rfl rfl (off := 4) rfl Tryd.isAgg36 Tryd.sizeOf36 [.bool true, .bool b.dir, .string ⟨b.data.toArray⟩] rfl (fun j hj => by match j, hj with | 0, _ => rfl | 1, _ => rfl | 2, _ => rfl) ?_)
      | ((with_reducible (show Go.wpList _ _ _ (Go.Oper.mk _ (.load 30 _) _ _ _ _ :: _) _ _)); refine wpl_load1 hE 1 rfl rfl rfl rfl (by simp [go_sem]) rfl ?_)
      | ((with_reducible (show Go.wpList _ _ _ (Go.Oper.mk _ (.load 65 _) _ _ _ _ :: _) _ _)); refine wpl_loadW hE 0 rfl rfl rfl rfl Tryd.isAgg65 Tryd.sizeOf65 rfl ?_)
      | ((with_reducible (show Go.wpList _ _ _ (Go.Oper.mk _ (.buildSlice _ _ _) _ _ _ _ :: _) _ _)); refine wpl_build1 hE rfl rfl (xs := chC ⟨a.path, ⟨true, a.dir, a.data⟩, ⟨true, b.dir, b.data⟩⟩) rfl Tryd.underlying30 zs_ch Tryd.sizeOf65 (by decide) (by decide) rfl ?_; clear hE; intro b9 w3 hE)
      | ((with_reducible (show Go.wpList _ _ _ (Go.Oper.mk _ (.call { callee := .builtin .append, args := _, argTypes := _ }) _ _ _ _ :: _) _ _)); refine wpl_appendG hE 3 rfl rfl rfl rfl rfl Tryd.underlying30 info_ch (by decide) (m := 1) (news := chC ⟨a.path, ⟨true, a.dir, a.data⟩, ⟨true, b.dir, b.data⟩⟩) (reads_pt hE 0 rfl (off := 0) (fun j u hu => by rw [Nat.zero_add, List.getElem?_toArray]; exact hu)) rfl (chC_one _) (by omega) (by omega) ?_; clear hE; intro a7 c7 w6 hE; simp only [List.set_cons_zero, List.set_cons_succ] at hE)
      | ((with_reducible (show Go.wpList _ _ _ (Go.Oper.mk _ (.store 30 _ _) _ _ _ _ :: _) _ _)); refine wpl_st1 hE 2 rfl rfl rfl rfl rfl (by first | (simp [go_sem]; done) | (simp [go_sem]; rfl)) rfl rfl (by simp) ?_; clear hE; intro w7 hE; simp only [List.set_cons_zero, List.set_cons_succ] at hE))
    refine bodyPost_ret (results_none rfl _ _ _) rfl ?_
    exact ⟨_, rfl, ao, c, by rw [HR.out]; simpa using hE.tail⟩
  | false =>
    rw [if_neg (by decide)] at HR
    go_enter Tryd.func32, Tryd.ntmps32
    go_wp2_with (first
      | go_skip
      | (clear T1; (go_at_call 33; have H := entry_some (x := a) (b := bx) (off := ox) (ent_facts HX.out sfx) hE; refine H.mono ?_; clear H; rintro e w2 ⟨v, h1, h2, hE⟩; cases h1; cases h2; try simp only [sdV]))
      | (go_at_call 33; have H := entry_some (x := b) (b := b_y) (off := oy) (ent_facts HY.out sfx) hE; refine H.mono ?_; clear H; rintro e w2 ⟨v, h1, h2, hE⟩; cases h1; cases h2; try simp only [sdV])
      | ((with_reducible (show Go.wpList _ _ _ (Go.Oper.mk _ (.alloc _) _ _ _ _ :: _) _ _)); refine wpl_alloc hE rfl rfl (by simp [go_sem]; rfl) ?_; clear hE; intro b5 w hE; simp only [Act.eval, Act.put, List.setIfInBounds_toArray, List.set_cons_zero, List.set_cons_succ, getD_lit, List.getD_cons_succ, List.getD_cons_zero, Value.cells] at hE)
      | ((with_reducible (show Go.wpList _ _ _ (Go.Oper.mk _ (.store 65 _ _) _ _ _ _ :: _) _ _)); refine wpl_storeW hE 0 rfl rfl rfl (xs := [.string ⟨#[]⟩, .bool true, .bool a.dir, .string ⟨a.data.toArray⟩, .bool true, .bool b.dir, .string ⟨b.data.toArray⟩]) rfl rfl Tryd.sizeOf65 rfl (by simp [Value.oneCell']) rfl ?_; clear hE; intro w8 hE; simp only [List.set_cons_zero] at hE; have hp := atCell (t := 9) (P := Tryd.prog) (HX.out _ (hE.suf sfx) 0 _ rfl) (by simp [go_sem]); simp only [Nat.add_zero] at hp)
      | ((with_reducible (show Go.wpList _ _ _ (Go.Oper.mk _ (.store 9 _ _) _ _ _ _ :: _) _ _)); clear hp; refine wpl_st1 hE 0 rfl rfl rfl rfl rfl (by first | (simp [go_sem]; done) | (simp [go_sem]; rfl)) rfl rfl (by simp) ?_; clear hE; intro w7 hE; simp only [List.set_cons_zero, List.set_cons_succ] at hE)
      | ((with_reducible (show Go.wpList _ _ _ (Go.Oper.mk _ (.load 36 _) _ _ _ _ :: _) _ _)); first | refine wpl_loadA hE 0 rfl rfl rfl (off := 1) rfl Tryd.isAgg36 Tryd.sizeOf36 [.bool true, .bool a.dir, .string ⟨a.data.toArray⟩] rfl (fun j hj => by match j, hj with | 0, _ => rfl | 1, _ => rfl | 2, _ => rfl) ?_ | refine wpl_loadA hE 0 rfl rfl rfl (off := 4) rfl Tryd.isAgg36 Tryd.sizeOf36 [.bool true, .bool b.dir, .string ⟨b.data.toArray⟩] rfl (fun j hj => by match j, hj with | 0, _ => rfl | 1, _ => rfl | 2, _ => rfl) ?_)
      | ((with_reducible (show Go.wpList _ _ _ (Go.Oper.mk _ (.load 30 _) _ _ _ _ :: _) _ _)); refine wpl_load1 hE 1 rfl rfl rfl rfl (by simp [go_sem]) rfl ?_)
      | ((with_reducible (show Go.wpList _ _ _ (Go.Oper.mk _ (.load 65 _) _ _ _ _ :: _) _ _)); refine wpl_loadW hE 0 rfl rfl rfl rfl Tryd.isAgg65 Tryd.sizeOf65 rfl ?_)
      | ((with_reducible (show Go.wpList _ _ _ (Go.Oper.mk _ (.buildSlice _ _ _) _ _ _ _ :: _) _ _)); refine wpl_build1 hE rfl rfl (xs := chC ⟨a.path, ⟨true, a.dir, a.data⟩, ⟨true, b.dir, b.data⟩⟩) rfl Tryd.underlying30 zs_ch Tryd.sizeOf65 (by decide) (by decide) rfl ?_; clear hE; intro b9 w3 hE)
      | ((with_reducible (show Go.wpList _ _ _ (Go.Oper.mk _ (.call { callee := .builtin .append, args := _, argTypes := _ }) _ _ _ _ :: _) _ _)); refine wpl_appendG hE 3 rfl rfl rfl rfl rfl Tryd.underlying30 info_ch (by decide) (m := 1) (news := chC ⟨a.path, ⟨true, a.dir, a.data⟩, ⟨true, b.dir, b.data⟩⟩) (reads_pt hE 0 rfl (off := 0) (fun j u hu => by rw [Nat.zero_add, List.getElem?_toArray]; exact hu)) rfl (chC_one _) (by omega) (by omega) ?_; clear hE; intro a7 c7 w6 hE; simp only [List.set_cons_zero, List.set_cons_succ] at hE)
      | ((with_reducible (show Go.wpList _ _ _ (Go.Oper.mk _ (.store 30 _ _) _ _ _ _ :: _) _ _)); refine wpl_st1 hE 2 rfl rfl rfl rfl rfl (by first | (simp [go_sem]; done) | (simp [go_sem]; rfl)) rfl rfl (by simp) ?_; clear hE; intro w7 hE; simp only [List.set_cons_zero, List.set_cons_succ] at hE))
    refine bodyPost_ret (results_none rfl _ _ _) rfl ?_
    refine ⟨_, rfl, a7, c7, ?_⟩
    rw [HR.out]
    simp only [Option.toList, List.length_append, List.length_singleton]
    rw [← rowCh_add]
    exact hE.tail.tail
set_option maxRecDepth 100000 in
set_option maxHeartbeats 4000000 in
attribute [-go_sem] Instr.loadAt Go.run_equalIn_agg in
theorem diff1_x {L0 : List HProp} {a : En} {bx ox : Nat} (hx : ∀ w, Ent L0 w → ∀ j v, (enC a)[j]? = some v → w.cell? ⟨bx, ox + j, none⟩ = some v) {p1 : Nat} {ao : Option Addr} {c : Nat} {out : List Ch} (hn : out.length ≤ 1000000) {w : World} (hE : Ent (pt p1 (.cells #[.slice ao out.length c] 30) :: rowCh ao c out :: L0) w) :
    Calls Tryd.prog 32 #[.pointer (some ⟨bx, ox, none⟩), .pointer none, .pointer (some ⟨p1, 0, none⟩)] w (Ret fun _ w' => D1Post p1 (out ++ (diffO (some a, none)).toList) L0 w') := by
  have HX := SL.hid hx
  clear hx
  have hEq : ∀ w, (Op.equalIn 10000 36 (.agg #[.bool true, .bool a.dir, .string ⟨a.data.toArray⟩]) (.agg #[.bool false, .bool false, .string ⟨#[]⟩])).run Tryd.prog w = .ok ((⟨true, a.dir, a.data⟩ : Sd) == .no) w := fun w => eqSd 9998 ⟨true, a.dir, a.data⟩ .no w
  have HR := SL.hid (show diffO (some a, none) = if ((⟨true, a.dir, a.data⟩ : Sd) == .no) = true then none else some ⟨a.path, ⟨true, a.dir, a.data⟩, .no⟩ by by_cases h : (⟨true, a.dir, a.data⟩ : Sd) = .no <;> simp [diffO, keyB, sideO, chg, h])
  generalize ((⟨true, a.dir, a.data⟩ : Sd) == .no) = eq at *
  have T1 := SL.hid True.intro
  cases eq with
  | true =>
    rw [if_pos rfl] at HR
    go_enter Tryd.func32, Tryd.ntmps32
    go_wp2_with (first
      | go_skip
      | (clear T1; (go_at_call 33; have H := entry_some (x := a) (b := bx) (off := ox) (ent_facts HX.out sfx) hE; refine H.mono ?_; clear H; rintro e w2 ⟨v, h1, h2, hE⟩; cases h1; cases h2; try simp only [sdV]))
      | (go_at_call 33; have H := entry_nil hE; refine H.mono ?_; clear H; rintro e w2 ⟨v, h1, h2, hE⟩; cases h1; cases h2; try simp only [sdV, Sd.no])
      | ((with_reducible (show Go.wpList _ _ _ (Go.Oper.mk _ (.alloc _) _ _ _ _ :: _) _ _)); refine wpl_alloc hE rfl rfl (by simp [go_sem]; rfl) ?_; clear hE; intro b5 w hE; simp only [Act.eval, Act.put, List.setIfInBounds_toArray, List.set_cons_zero, List.set_cons_succ, getD_lit, List.getD_cons_succ, List.getD_cons_zero, Value.cells] at hE)
      | ((with_reducible (show Go.wpList _ _ _ (Go.Oper.mk _ (.store 65 _ _) _ _ _ _ :: _) _ _)); refine wpl_storeW hE 0 rfl rfl rfl (xs := [.string ⟨#[]⟩, .bool true, .bool a.dir, .string ⟨a.data.toArray⟩, .bool false, .bool false, .string ⟨#[]⟩]) rfl rfl Tryd.sizeOf65 rfl (by simp [Value.oneCell']) rfl ?_; clear hE; intro w8 hE; simp only [List.set_cons_zero] at hE; have hp := atCell (t := 9) (P := Tryd.prog) (HX.out _ (hE.suf sfx) 0 _ rfl) (by simp [go_sem]); simp only [Nat.add_zero] at hp)
      | ((with_reducible (show Go.wpList _ _ _ (Go.Oper.mk _ (.store 9 _ _) _ _ _ _ :: _) _ _)); clear hp; refine wpl_st1 hE 0 rfl rfl rfl rfl rfl (by first | (simp [go_sem]; done) | (simp [go_sem]; rfl)) rfl rfl (by simp) ?_; clear hE; intro w7 hE; simp only [List.set_cons_zero, List.set_cons_succ] at hE)
      | ((with_reducible (show Go.wpList _ _ _ (Go.Oper.mk _ (.load 36 _) _ _ _ _ :: _) _ _)); first | refine wpl_loadA hE 0 rfl rfl rfl (off := 1) rfl Tryd.isAgg36 Tryd.sizeOf36 [.bool true, .bool a.dir, .string ⟨a.data.toArray⟩] rfl (fun j hj => by match j, hj with | 0, _ => rfl | 1, _ => rfl | 2, _ => rfl) ?_ | refine wpl_loadA hE 0 rfl rfl rfl (off := 4) rfl Tryd.isAgg36 Tryd.sizeOf36 [.bool false, .bool false, .string ⟨#[]⟩] rfl (fun j hj => by match j, hj with | 0, _ => rfl | 1, _ => rfl | 2, _ => rfl) ?_)
      | ((with_reducible (show Go.wpList _ _ _ (Go.Oper.mk _ (.load 30 _) _ _ _ _ :: _) _ _)); refine wpl_load1 hE 1 rfl rfl rfl rfl (by simp [go_sem]) rfl ?_)
      | ((with_reducible (show Go.wpList _ _ _ (Go.Oper.mk _ (.load 65 _) _ _ _ _ :: _) _ _)); refine wpl_loadW hE 0 rfl rfl rfl rfl Tryd.isAgg65 Tryd.sizeOf65 rfl ?_)
      | ((with_reducible (show Go.wpList _ _ _ (Go.Oper.mk _ (.buildSlice _ _ _) _ _ _ _ :: _) _ _)); refine wpl_build1 hE rfl rfl (xs := chC ⟨a.path, ⟨true, a.dir, a.data⟩, .no⟩) rfl Tryd.underlying30 zs_ch Tryd.sizeOf65 (by decide) (by decide) rfl ?_; clear hE; intro b9 w3 hE)
      | ((with_reducible (show Go.wpList _ _ _ (Go.Oper.mk _ (.call { callee := .builtin .append, args := _, argTypes := _ }) _ _ _ _ :: _) _ _)); refine wpl_appendG hE 3 rfl rfl rfl rfl rfl Tryd.underlying30 info_ch (by decide) (m := 1) (news := chC ⟨a.path, ⟨true, a.dir, a.data⟩, .no⟩) (reads_pt hE 0 rfl (off := 0) (fun j u hu => by rw [Nat.zero_add, List.getElem?_toArray]; exact hu)) rfl (chC_one _) (by omega) (by omega) ?_; clear hE; intro a7 c7 w6 hE; simp only [List.set_cons_zero, List.set_cons_succ] at hE)
      | ((with_reducible (show Go.wpList _ _ _ (Go.Oper.mk _ (.store 30 _ _) _ _ _ _ :: _) _ _)); refine wpl_st1 hE 2 rfl rfl rfl rfl rfl (by first | (simp [go_sem]; done) | (simp [go_sem]; rfl)) rfl rfl (by simp) ?_; clear hE; intro w7 hE; simp only [List.set_cons_zero, List.set_cons_succ] at hE))
    refine bodyPost_ret (results_none rfl _ _ _) rfl ?_
    exact ⟨_, rfl, ao, c, by rw [HR.out]; simpa using hE.tail⟩
  | false =>
    rw [if_neg (by decide)] at HR
    go_enter Tryd.func32, Tryd.ntmps32
    go_wp2_with (first
      | go_skip
      | (clear T1; (go_at_call 33; have H := entry_some (x := a) (b := bx) (off := ox) (ent_facts HX.out sfx) hE; refine H.mono ?_; clear H; rintro e w2 ⟨v, h1, h2, hE⟩; cases h1; cases h2; try simp only [sdV]))
      | (go_at_call 33; have H := entry_nil hE; refine H.mono ?_; clear H; rintro e w2 ⟨v, h1, h2, hE⟩; cases h1; cases h2; try simp only [sdV, Sd.no])
      | ((with_reducible (show Go.wpList _ _ _ (Go.Oper.mk _ (.alloc _) _ _ _ _ :: _) _ _)); refine wpl_alloc hE rfl rfl (by simp [go_sem]; rfl) ?_; clear hE; intro b5 w hE; simp only [Act.eval, Act.put, List.setIfInBounds_toArray, List.set_cons_zero, List.set_cons_succ, getD_lit, List.getD_cons_succ, List.getD_cons_zero, Value.cells] at hE)
      | ((with_reducible (show Go.wpList _ _ _ (Go.Oper.mk _ (.store 65 _ _) _ _ _ _ :: _) _ _)); refine wpl_storeW hE 0 rfl rfl rfl (xs := [.string ⟨#[]⟩, .bool true, .bool a.dir, .string ⟨a.data.toArray⟩, .bool false, .bool false, .string ⟨#[]⟩]) rfl rfl Tryd.sizeOf65 rfl (by simp [Value.oneCell']) rfl ?_; clear hE; intro w8 hE; simp only [List.set_cons_zero] at hE; have hp := atCell (t := 9) (P := Tryd.prog) (HX.out _ (hE.suf sfx) 0 _ rfl) (by simp [go_sem]); simp only [Nat.add_zero] at hp)
      | ((with_reducible (show Go.wpList _ _ _ (Go.Oper.mk _ (.store 9 _ _) _ _ _ _ :: _) _ _)); clear hp; refine wpl_st1 hE 0 rfl rfl rfl rfl rfl (by first | (simp [go_sem]; done) | (simp [go_sem]; rfl)) rfl rfl (by simp) ?_; clear hE; intro w7 hE; simp only [List.set_cons_zero, List.set_cons_succ] at hE)
      | ((with_reducible (show Go.wpList _ _ _ (Go.Oper.mk _ (.load 36 _) _ _ _ _ :: _) _ _)); first | refine wpl_loadA hE 0 rfl rfl rfl (off := 1) rfl Tryd.isAgg36 Tryd.sizeOf36 [.bool true, .bool a.dir, .string ⟨a.data.toArray⟩] rfl (fun j hj => by match j, hj with | 0, _ => rfl | 1, _ => rfl | 2, _ => rfl) ?_ | refine wpl_loadA hE 0 rfl rfl rfl (off := 4) rfl Tryd.isAgg36 Tryd.sizeOf36 [.bool false, .bool false, .string ⟨#[]⟩] rfl (fun j hj => by match j, hj with | 0, _ => rfl | 1, _ => rfl | 2, _ => rfl) ?_)
      | ((with_reducible (show Go.wpList _ _ _ (Go.Oper.mk _ (.load 30 _) _ _ _ _ :: _) _ _)); refine wpl_load1 hE 1 rfl rfl rfl rfl (by simp [go_sem]) rfl ?_)
      | ((with_reducible (show Go.wpList _ _ _ (Go.Oper.mk _ (.load 65 _) _ _ _ _ :: _) _ _)); refine wpl_loadW hE 0 rfl rfl rfl rfl Tryd.isAgg65 Tryd.sizeOf65 rfl ?_)
      | ((with_reducible (show Go.wpList _ _ _ (Go.Oper.mk _ (.buildSlice _ _ _) _ _ _ _ :: _) _ _)); refine wpl_build1 hE rfl rfl (xs := chC ⟨a.path, ⟨true, a.dir, a.data⟩, .no⟩) rfl Tryd.underlying30 zs_ch Tryd.sizeOf65 (by decide) (by decide) rfl ?_; clear hE; intro b9 w3 hE)
      | ((with_reducible (show Go.wpList _ _ _ (Go.Oper.mk _ (.call { callee := .builtin .append, args := _, argTypes := _ }) _ _ _ _ :: _) _ _)); refine wpl_appendG hE 3 rfl rfl rfl rfl rfl Tryd.underlying30 info_ch (by decide) (m := 1) (news := chC ⟨a.path, ⟨true, a.dir, a.data⟩, .no⟩) (reads_pt hE 0 rfl (off := 0) (fun j u hu => by rw [Nat.zero_add, List.getElem?_toArray]; exact hu)) rfl (chC_one _) (by omega) (by omega) ?_; clear hE; intro a7 c7 w6 hE; simp only [List.set_cons_zero, List.set_cons_succ] at hE)
      | ((with_reducible (show Go.wpList _ _ _ (Go.Oper.mk _ (.store 30 _ _) _ _ _ _ :: _) _ _)); refine wpl_st1 hE 2 rfl rfl rfl rfl rfl (by first | (simp [go_sem]; done) | (simp [go_sem]; rfl)) rfl rfl (by simp) ?_; clear hE; intro w7 hE; simp only [List.set_cons_zero, List.set_cons_succ] at hE))
    refine bodyPost_ret (results_none rfl _ _ _) rfl ?_
    refine ⟨_, rfl, a7, c7, ?_⟩
    rw [HR.out]
    simp only [Option.toList, List.length_append, List.length_singleton]
    rw [← rowCh_add]
    exact hE.tail.tail
set_option maxRecDepth 100000 in
set_option maxHeartbeats 4000000 in
attribute [-go_sem] Instr.loadAt Go.run_equalIn_agg in
theorem diff1_y {L0 : List HProp} {b : En} {b_y oy : Nat} (hy : ∀ w, Ent L0 w → ∀ j v, (enC b)[j]? = some v → w.cell? ⟨b_y, oy + j, none⟩ = some v) {p1 : Nat} {ao : Option Addr} {c : Nat} {out : List Ch} (hn : out.length ≤ 1000000) {w : World} (hE : Ent (pt p1 (.cells #[.slice ao out.length c] 30) :: rowCh ao c out :: L0) w) :
    Calls Tryd.prog 32 #[.pointer none, .pointer (some ⟨b_y, oy, none⟩), .pointer (some ⟨p1, 0, none⟩)] w (Ret fun _ w' => D1Post p1 (out ++ (diffO (none, some b)).toList) L0 w') := by
  have HY := SL.hid hy
  clear hy
  have hEq : ∀ w, (Op.equalIn 10000 36 (.agg #[.bool false, .bool false, .string ⟨#[]⟩]) (.agg #[.bool true, .bool b.dir, .string ⟨b.data.toArray⟩])).run Tryd.prog w = .ok ((.no : Sd) == ⟨true, b.dir, b.data⟩) w := fun w => eqSd 9998 .no ⟨true, b.dir, b.data⟩ w
  have HR := SL.hid (show diffO (none, some b) = if ((.no : Sd) == ⟨true, b.dir, b.data⟩) = true then none else some ⟨b.path, .no, ⟨true, b.dir, b.data⟩⟩ by by_cases h : (.no : Sd) = ⟨true, b.dir, b.data⟩ <;> simp [diffO, keyB, sideO, chg, h])
  generalize ((.no : Sd) == ⟨true, b.dir, b.data⟩) = eq at *
  have T1 := SL.hid True.intro
  cases eq with
  | true =>
    rw [if_pos rfl] at HR
    go_enter Tryd.func32, Tryd.ntmps32
    go_wp2_with (first
      | go_skip
      | (clear T1; (go_at_call 33; have H := entry_nil hE; refine H.mono ?_; clear H; rintro e w2 ⟨v, h1, h2, hE⟩; cases h1; cases h2; try simp only [sdV, Sd.no]))
      | (go_at_call 33; have H := entry_some (x := b) (b := b_y) (off := oy) (ent_facts HY.out sfx) hE; refine H.mono ?_; clear H; rintro e w2 ⟨v, h1, h2, hE⟩; cases h1; cases h2; try simp only [sdV])
      | ((with_reducible (show Go.wpList _ _ _ (Go.Oper.mk _ (.alloc _) _ _ _ _ :: _) _ _)); refine wpl_alloc hE rfl rfl (by simp [go_sem]; rfl) ?_; clear hE; intro b5 w hE; simp only [Act.eval, Act.put, List.setIfInBounds_toArray, List.set_cons_zero, List.set_cons_succ, getD_lit, List.getD_cons_succ, List.getD_cons_zero, Value.cells] at hE)
      | ((with_reducible (show Go.wpList _ _ _ (Go.Oper.mk _ (.store 65 _ _) _ _ _ _ :: _) _ _)); refine wpl_storeW hE 0 rfl rfl rfl (xs := [.string ⟨#[]⟩, .bool false, .bool false, .string ⟨#[]⟩, .bool true, .bool b.dir, .string ⟨b.data.toArray⟩]) rfl rfl Tryd.sizeOf65 rfl (by simp [Value.oneCell']) rfl ?_; clear hE; intro w8 hE; simp only [List.set_cons_zero] at hE; have hp := atCell (t := 9) (P := Tryd.prog) (HY.out _ (hE.suf sfx) 0 _ rfl) (by simp [go_sem]); simp only [Nat.add_zero] at hp)
      | ((with_reducible (show Go.wpList _ _ _ (Go.Oper.mk _ (.store 9 _ _) _ _ _ _ :: _) _ _)); clear hp; refine wpl_st1 hE 0 rfl rfl rfl rfl rfl (by first | (simp [go_sem]; done) | (simp [go_sem]; rfl)) rfl rfl (by simp) ?_; clear hE; intro w7 hE; simp only [List.set_cons_zero, List.set_cons_succ] at hE)
      | ((with_reducible (show Go.wpList _ _ _ (Go.Oper.mk _ (.load 36 _) _ _ _ _ :: _) _ _)); first | refine wpl_loadA hE 0 rfl rfl rfl (off := 1) rfl Tryd.isAgg36 Tryd.sizeOf36 [.bool false, .bool false, .string ⟨#[]⟩] rfl (fun j hj => by match j, hj with | 0, _ => rfl | 1, _ => rfl | 2, _ => rfl) ?_ | refine wpl_loadA hE 0 rfl rfl rfl (off := 4) rfl Tryd.isAgg36 Tryd.sizeOf36 [.bool true, .bool b.dir, .string ⟨b.data.toArray⟩] rfl (fun j hj => by match j, hj with | 0, _ => rfl | 1, _ => rfl | 2, _ => rfl) ?_)
      | ((with_reducible (show Go.wpList _ _ _ (Go.Oper.mk _ (.load 30 _) _ _ _ _ :: _) _ _)); refine wpl_load1 hE 1 rfl rfl rfl rfl (by simp [go_sem]) rfl ?_)
      | ((with_reducible (show Go.wpList _ _ _ (Go.Oper.mk _ (.load 65 _) _ _ _ _ :: _) _ _)); refine wpl_loadW hE 0 rfl rfl rfl rfl Tryd.isAgg65 Tryd.sizeOf65 rfl ?_)
      | ((with_reducible (show Go.wpList _ _ _ (Go.Oper.mk _ (.buildSlice _ _ _) _ _ _ _ :: _) _ _)); refine wpl_build1 hE rfl rfl (xs := chC ⟨b.path, .no, ⟨true, b.dir, b.data⟩⟩) rfl Tryd.underlying30 zs_ch Tryd.sizeOf65 (by decide) (by decide) rfl ?_; clear hE; intro b9 w3 hE)
      | ((with_reducible (show Go.wpList _ _ _ (Go.Oper.mk _ (.call { callee := .builtin .append, args := _, argTypes := _ }) _ _ _ _ :: _) _ _)); refine wpl_appendG hE 3 rfl rfl rfl rfl rfl Tryd.underlying30 info_ch (by decide) (m := 1) (news := chC ⟨b.path, .no, ⟨true, b.dir, b.data⟩⟩) (reads_pt hE 0 rfl (off := 0) (fun j u hu => by rw [Nat.zero_add, List.getElem?_toArray]; exact hu)) rfl (chC_one _) (by omega) (by omega) ?_; clear hE; intro a7 c7 w6 hE; simp only [List.set_cons_zero, List.set_cons_succ] at hE)
      | ((with_reducible (show Go.wpList _ _ _ (Go.Oper.mk _ (.store 30 _ _) _ _ _ _ :: _) _ _)); refine wpl_st1 hE 2 rfl rfl rfl rfl rfl (by first | (simp [go_sem]; done) | (simp [go_sem]; rfl)) rfl rfl (by simp) ?_; clear hE; intro w7 hE; simp only [List.set_cons_zero, List.set_cons_succ] at hE))
    refine bodyPost_ret (results_none rfl _ _ _) rfl ?_
    exact ⟨_, rfl, ao, c, by rw [HR.out]; simpa using hE.tail⟩
  | false =>
    rw [if_neg (by decide)] at HR
    go_enter Tryd.func32, Tryd.ntmps32
    go_wp2_with (first
      | go_skip
      | (clear T1; (go_at_call 33; have H := entry_nil hE; refine H.mono ?_; clear H; rintro e w2 ⟨v, h1, h2, hE⟩; cases h1; cases h2; try simp only [sdV, Sd.no]))
      | (go_at_call 33; have H := entry_some (x := b) (b := b_y) (off := oy) (ent_facts HY.out sfx) hE; refine H.mono ?_; clear H; rintro e w2 ⟨v, h1, h2, hE⟩; cases h1; cases h2; try simp only [sdV])
      | ((with_reducible (show Go.wpList _ _ _ (Go.Oper.mk _ (.alloc _) _ _ _ _ :: _) _ _)); refine wpl_alloc hE rfl rfl (by simp [go_sem]; rfl) ?_; clear hE; intro b5 w hE; simp only [Act.eval, Act.put, List.setIfInBounds_toArray, List.set_cons_zero, List.set_cons_succ, getD_lit, List.getD_cons_succ, List.getD_cons_zero, Value.cells] at hE)
      | ((with_reducible (show Go.wpList _ _ _ (Go.Oper.mk _ (.store 65 _ _) _ _ _ _ :: _) _ _)); refine wpl_storeW hE 0 rfl rfl rfl (xs := [.string ⟨#[]⟩, .bool false, .bool false, .string ⟨#[]⟩, .bool true, .bool b.dir, .string ⟨b.data.toArray⟩]) rfl rfl Tryd.sizeOf65 rfl (by simp [Value.oneCell']) rfl ?_; clear hE; intro w8 hE; simp only [List.set_cons_zero] at hE; have hp := atCell (t := 9) (P := Tryd.prog) (HY.out _ (hE.suf sfx) 0 _ rfl) (by simp [go_sem]); simp only [Nat.add_zero] at hp)
      | ((with_reducible (show Go.wpList _ _ _ (Go.Oper.mk _ (.store 9 _ _) _ _ _ _ :: _) _ _)); clear hp; refine wpl_st1 hE 0 rfl rfl rfl rfl rfl (by first | (simp [go_sem]; done) | (simp [go_sem]; rfl)) rfl rfl (by simp) ?_; clear hE; intro w7 hE; simp only [List.set_cons_zero, List.set_cons_succ] at hE)
      | ((with_reducible (show Go.wpList _ _ _ (Go.Oper.mk _ (.load 36 _) _ _ _ _ :: _) _ _)); first | refine wpl_loadA hE 0 rfl rfl rfl (off := 1) rfl Tryd.isAgg36 Tryd.sizeOf36 [.bool false, .bool false, .string ⟨#[]⟩] rfl (fun j hj => by match j, hj with | 0, _ => rfl | 1, _ => rfl | 2, _ => rfl) ?_ | refine wpl_loadA hE 0 rfl rfl rfl (off := 4) rfl Tryd.isAgg36 Tryd.sizeOf36 [.bool true, .bool b.dir, .string ⟨b.data.toArray⟩] rfl (fun j hj => by match j, hj with | 0, _ => rfl | 1, _ => rfl | 2, _ => rfl) ?_)
      | ((with_reducible (show Go.wpList _ _ _ (Go.Oper.mk _ (.load 30 _) _ _ _ _ :: _) _ _)); refine wpl_load1 hE 1 rfl rfl rfl rfl (by simp [go_sem]) rfl ?_)
      | ((with_reducible (show Go.wpList _ _ _ (Go.Oper.mk _ (.load 65 _) _ _ _ _ :: _) _ _)); refine wpl_loadW hE 0 rfl rfl rfl rfl Tryd.isAgg65 Tryd.sizeOf65 rfl ?_)
      | ((with_reducible (show Go.wpList _ _ _ (Go.Oper.mk _ (.buildSlice _ _ _) _ _ _ _ :: _) _ _)); refine wpl_build1 hE rfl rfl (xs := chC ⟨b.path, .no, ⟨true, b.dir, b.data⟩⟩) rfl Tryd.underlying30 zs_ch Tryd.sizeOf65 (by decide) (by decide) rfl ?_; clear hE; intro b9 w3 hE)
      | ((with_reducible (show Go.wpList _ _ _ (Go.Oper.mk _ (.call { callee := .builtin .append, args := _, argTypes := _ }) _ _ _ _ :: _) _ _)); refine wpl_appendG hE 3 rfl rfl rfl rfl rfl Tryd.underlying30 info_ch (by decide) (m := 1) (news := chC ⟨b.path, .no, ⟨true, b.dir, b.data⟩⟩) (reads_pt hE 0 rfl (off := 0) (fun j u hu => by rw [Nat.zero_add, List.getElem?_toArray]; exact hu)) rfl (chC_one _) (by omega) (by omega) ?_; clear hE; intro a7 c7 w6 hE; simp only [List.set_cons_zero, List.set_cons_succ] at hE)
      | ((with_reducible (show Go.wpList _ _ _ (Go.Oper.mk _ (.store 30 _ _) _ _ _ _ :: _) _ _)); refine wpl_st1 hE 2 rfl rfl rfl rfl rfl (by first | (simp [go_sem]; done) | (simp [go_sem]; rfl)) rfl rfl (by simp) ?_; clear hE; intro w7 hE; simp only [List.set_cons_zero, List.set_cons_succ] at hE))
    refine bodyPost_ret (results_none rfl _ _ _) rfl ?_
    refine ⟨_, rfl, a7, c7, ?_⟩
    rw [HR.out]
    simp only [Option.toList, List.length_append, List.length_singleton]
    rw [← rowCh_add]
    exact hE.tail.tail
end Go.Proofs.YtcpgelpajppgdaaDoor
namespace Go.Proofs.YtcpgelpajppgdaaDoor
open Go.RowKit Go.SL

def rowRc (ao : Option Addr) (c : Nat) (xs : List Ch) : HProp := row 74 7 (.slice ao xs.length c) xs.length (xs.flatMap chC)
theorem info_rch : elemInfo Tryd.prog 74 = some (some 7, 7, 64) := by kernel_rfl
theorem zs_rch : zeroSize Tryd.prog 74 = some 7 := by kernel_rfl
theorem rowRc_add {ao : Option Addr} {c : Nat} {out : List Ch} {x : Ch} : row 74 7 (.slice ao (out.length + 1) c) (out.length + 1) (out.flatMap chC ++ chC x) = rowRc ao c (out ++ [x]) := by
  simp [rowRc]
def rDiffP (a b : List En) : List Ch := (sortK (a.map En.path ++ b.map En.path)).filterMap fun k => chg k (rOf a k) (rOf b k)
def RdRel (all : List (List UInt8)) (F : List UInt8 → Option Ch) (LL : List HProp) (o i : Value) (wr : World) : Prop :=
  ∃ (k : Nat) (ao : Option Addr) (c : Nat) (out : List Ch), k ≤ all.length ∧ i = .int .i64 k ∧ out = (all.take k).filterMap F ∧ o = .slice ao out.length c ∧ Ent (rowRc ao c out :: LL) wr
theorem fm_step {α β : Type} {all : List α} {k : Nat} (h : k < all.length) (F : α → Option β) : (all.take (k + 1)).filterMap F = (all.take k).filterMap F ++ (F all[k]).toList := by
  rw [List.take_succ_eq_append_getElem h, List.filterMap_append]
  cases hf : F all[k] <;> simp [hf]
theorem fm_len {α β : Type} {all : List α} {k : Nat} (F : α → Option β) : ((all.take k).filterMap F).length ≤ all.length := by
  have h1 := List.length_filterMap_le F (all.take k)
  rw [List.length_take] at h1
  omega
set_option maxRecDepth 100000 in
set_option maxHeartbeats 4000000 in
attribute [-go_sem] Instr.loadAt Go.run_equalIn_agg in
theorem rDiff_any {a b : List En} (hna : a.length ≤ 40000) (hnb : b.length ≤ 40000) (hpa : ∀ x ∈ a, x.path.length ≤ 100000) (hpb : ∀ x ∈ b, x.path.length ≤ 100000) {aa ab : Option Addr} {ca cb : Nat} {l : List HProp} {w : World} (hka : Knows l (reads (.slice aa a.length ca) a.length (a.flatMap enC))) (hkb : Knows l (reads (.slice ab b.length cb) b.length (b.flatMap enC))) (hE : Ent l w) :
    Calls Tryd.prog 13 #[.slice aa a.length ca, .slice ab b.length cb] w (Ret fun v w' => ∃ ao c m, v = .slice ao (rDiffP a b).length c ∧ Ent (rowRc ao c (rDiffP a b) :: (m ++ l)) w') := by
  have H1 := SL.hid (fun (w : World) (h : Ent l w) => paths_any (by omega) hka h)
  have H2 := SL.hid (fun (L : List HProp) (w : World) (hs : l <:+ L) (h : Ent L w) => paths_any (by omega) (hkb.suf hs) h)
  have H3 := SL.hid (fun (L : List HProp) (w : World) (a1 b1 : Option Addr) (c1 d1 : Nat) h1 h2 (h : Ent L w) => sorted_any (xs := a.map En.path) (ys := b.map En.path) (ao := a1) (bo := b1) (c := c1) (d := d1) (by simp; omega) (by
    intro x hx
    rcases List.mem_append.1 hx with hx | hx
    · obtain ⟨y, hy, rfl⟩ := List.mem_map.1 hx
      exact hpa y hy
    · obtain ⟨y, hy, rfl⟩ := List.mem_map.1 hx
      exact hpb y hy) h1 h2 h)
  have HRA := SL.hid (fun (p : List UInt8) (L : List HProp) (w : World) hk (h : Ent L w) => rOf_any (es := a) (p := p) (ao := aa) (c := ca) (by omega) hk h)
  have HRB := SL.hid (fun (p : List UInt8) (L : List HProp) (w : World) hk (h : Ent L w) => rOf_any (es := b) (p := p) (ao := ab) (c := cb) (by omega) hk h)
  have hal : (sortK (a.map En.path ++ b.map En.path)).length ≤ 80000 := by
    have := sortK_len (a.map En.path ++ b.map En.path)
    simp at this
    omega
  unfold rDiffP
  generalize sortK (a.map En.path ++ b.map En.path) = all at *
  obtain ⟨pas, has⟩ : ∃ pas, a.map En.path = pas := ⟨_, rfl⟩
  obtain ⟨pbs, hbs⟩ : ∃ pbs, b.map En.path = pbs := ⟨_, rfl⟩
  rw [has] at H1 H3
  rw [hbs] at H2 H3
  clear has hbs hpa hpb
  obtain ⟨F, hF⟩ : ∃ F : List UInt8 → Option Ch, (fun k => chg k (rOf a k) (rOf b k)) = F := ⟨_, rfl⟩
  have HF := SL.hid hF
  rw [hF]
  clear hF
  have A1 := SL.hid True.intro
  go_enter Tryd.func13, Tryd.ntmps13
  go_wp2_with (first
    | go_skip
    | (clear A1; go_at_call 35; refine (H1.out _ hE).mono ?_; clear hE; rintro e w2 ⟨v, h1, a1, c1, h2, hE⟩; cases h1; cases h2)
    | (go_at_call 35; refine (H2.out _ _ (List.suffix_cons _ _) hE).mono ?_; clear hE; rintro e w2 ⟨v, h1, a2, c2, h2, hE⟩; cases h1; cases h2)
    | (go_at_call 34; refine (H3.out _ _ _ _ _ _ (fun w h => reads_row h 1 rfl) (fun w h => reads_row h 0 rfl) hE).mono ?_; clear hE; rintro e w2 ⟨v, h1, a3, c3, m3, h2, hE⟩; cases h1; cases h2))
  obtain ⟨LL, hEL, hall, hl⟩ : ∃ LL, Ent LL w2 ∧ Knows LL (reads (.slice a3 all.length c3) all.length (all.map strv)) ∧ ∃ m, LL = m ++ l := ⟨_, hE, fun w h => reads_row h 0 rfl, rowS a3 c3 all :: (m3 ++ [rowS a2 c2 pbs, rowS a1 c1 pas]), by simp⟩
  clear hE
  have hE := hEL
  clear hEL
  have HKA := SL.hid (show Knows LL _ from by obtain ⟨m, rfl⟩ := hl; exact hka.append)
  have HKB := SL.hid (show Knows LL _ from by obtain ⟨m, rfl⟩ := hl; exact hkb.append)
  clear hka hkb H1 H2 H3
  go_loopw [6, 7] (fun o i wr => RdRel all F LL o i wr) (fun _ i _ => all.length - (intOf i).toNat)
  case atStart => exact ⟨0, none, 0, [], Nat.zero_le _, rfl, rfl, rfl, hE.nil _ _⟩
  case round =>
    clear hE
    obtain ⟨k, ao, c, out, hkl, rfl, hout, rfl, hE⟩ := hrel
    have hol : out.length ≤ 80000 := by
      have := fm_len (all := all) (k := k) F
      rw [hout]
      omega
    by_cases hlt : k < all.length
    · obtain ⟨ba, oa, rfl, hz⟩ := str_at2 (hall _ hE.tail) hlt
      clear hz
      have f2 := SL.hid (show ∀ w, Ent LL w → w.cell? ⟨ba, oa + k, none⟩ = some (strv all[k]) from fun w h => by
        obtain ⟨b', o', e, h⟩ := str_at2 (hall w h) hlt
        cases e
        exact h)
      have Hst := SL.hid (fm_step hlt F)
      rw [← hout] at Hst
      clear hout
      simp only [strv] at f2
      generalize all[k] = key at *
      have HA := SL.hid (HRA.out key)
      have HB := SL.hid (HRB.out key)
      have HFk := SL.hid (show F key = if (rOf a key == rOf b key) = true then none else some ⟨key, rOf a key, rOf b key⟩ by rw [← HF.out]; by_cases h : rOf a key = rOf b key <;> simp [chg, h])
      have hEq := fun w => eqSr 9998 (rOf a key) (rOf b key) w
      simp only [sdV] at HA HB
      simp only [sdC] at hEq
      generalize (rOf a key == rOf b key) = eq at *
      generalize rOf a key = s at *
      generalize rOf b key = u at *
      obtain ⟨st, sd, sb⟩ := s
      obtain ⟨ut, ud, ub⟩ := u
      simp only at HA HB hEq
      go_wp2
      have hO := hE.drew
      refine wp_region_held_drew (S := (fun w' => ((Instr.loadAt 9 (.pointer (some ⟨ba, oa + k, none⟩))).run Tryd.prog w' = .ok (.string ⟨key.toArray⟩) w'))) (by kernel_rfl) (atCell (f2.out _ (hO.suf sfx)) (by simp [go_sem])) (fun hS => ?_)
      refine takeW 0 ⟨some 20, .move (.tmp 5), _, _, _, none⟩ ?_ (.inl ⟨by rfl, ?_⟩) hS ?_; rotate_left; · (intro _ _; go_simp; (try with_reducible rfl))
      try simp only [Act.put, sb, s0, sz]
      refine takeW 1 ⟨some 21, .move (.tmp 7), _, _, _, none⟩ ?_ (.inl ⟨by rfl, ?_⟩) hS ?_; rotate_left; · (intro _ _; go_simp; (try with_reducible rfl))
      try simp only [Act.put, sb, s0, sz]
      refine takeW 2 ⟨some 22, .indexAddr 75 (.tmp 20) (.tmp 21), _, _, _, none⟩ ?_ (.inl ⟨by rfl, ?_⟩) hS ?_; rotate_left; · (intro _ _; go_simp; (try with_reducible rfl))
      try simp only [Act.put, sb, s0, sz]
      refine takeW 3 ⟨some 23, .load 9 (.tmp 22), _, _, _, none⟩ ?_ (.inl ⟨by rfl, ?_⟩) hS ?_; rotate_left; · (intro w hSw; (try dsimp only at hSw); go_simp; (try with_reducible rfl))
      try simp only [Act.put, sb, s0, sz]
      refine takeW 4 ⟨some 24, .move (.tmp 0), _, _, _, none⟩ ?_ (.inl ⟨by rfl, ?_⟩) hS ?_; rotate_left; · (intro _ _; go_simp; (try with_reducible rfl))
      try simp only [Act.put, sb, s0, sz]
      refine takeW 5 ⟨some 25, .move (.tmp 5), _, _, _, none⟩ ?_ (.inl ⟨by rfl, ?_⟩) hS ?_; rotate_left; · (intro _ _; go_simp; (try with_reducible rfl))
      try simp only [Act.put, sb, s0, sz]
      refine takeW 6 ⟨some 26, .move (.tmp 7), _, _, _, none⟩ ?_ (.inl ⟨by rfl, ?_⟩) hS ?_; rotate_left; · (intro _ _; go_simp; (try with_reducible rfl))
      try simp only [Act.put, sb, s0, sz]
      refine takeW 7 ⟨some 27, .indexAddr 75 (.tmp 25) (.tmp 26), _, _, _, none⟩ ?_ (.inl ⟨by rfl, ?_⟩) hS ?_; rotate_left; · (intro _ _; go_simp; (try with_reducible rfl))
      try simp only [Act.put, sb, s0, sz]
      refine takeW 8 ⟨some 28, .load 9 (.tmp 27), _, _, _, none⟩ ?_ (.inl ⟨by rfl, ?_⟩) hS ?_; rotate_left; · (intro w hSw; (try dsimp only at hSw); go_simp; (try with_reducible rfl))
      try simp only [Act.put, sb, s0, sz]
      refine takeW 10 ⟨some 30, .move (.tmp 1), _, _, _, none⟩ ?_ (.inl ⟨by rfl, ?_⟩) hS ?_; rotate_left; · (intro _ _; go_simp; (try with_reducible rfl))
      try simp only [Act.put, sb, s0, sz]
      refine takeW 11 ⟨some 31, .move (.tmp 5), _, _, _, none⟩ ?_ (.inl ⟨by rfl, ?_⟩) hS ?_; rotate_left; · (intro _ _; go_simp; (try with_reducible rfl))
      try simp only [Act.put, sb, s0, sz]
      refine takeW 12 ⟨some 32, .move (.tmp 7), _, _, _, none⟩ ?_ (.inl ⟨by rfl, ?_⟩) hS ?_; rotate_left; · (intro _ _; go_simp; (try with_reducible rfl))
      try simp only [Act.put, sb, s0, sz]
      refine takeW 13 ⟨some 33, .indexAddr 75 (.tmp 31) (.tmp 32), _, _, _, none⟩ ?_ (.inl ⟨by rfl, ?_⟩) hS ?_; rotate_left; · (intro _ _; go_simp; (try with_reducible rfl))
      try simp only [Act.put, sb, s0, sz]
      refine takeW 14 ⟨some 34, .load 9 (.tmp 33), _, _, _, none⟩ ?_ (.inl ⟨by rfl, ?_⟩) hS ?_; rotate_left; · (intro w hSw; (try dsimp only at hSw); go_simp; (try with_reducible rfl))
      try simp only [Act.put, sb, s0, sz]
      refine wpAnyH_ready (rs := [9, 17]) (by kernel_rfl) (by simp) ?_
      refine (AllReadyH.cons (o := ⟨some 29, .call { callee := .value (.func 16), args := #[.tmp 24, .tmp 28], argTypes := #[22, 9] }, _, _, _, none⟩) rfl (fun K hK => ?_) (AllReadyH.cons (o := ⟨some 8, .alloc 74, _, _, _, none⟩) rfl (fun K hK => ?_) AllReadyH.nil))
      focus
        (go_simp; refine (HA.out _ _ (HKA.out.suf sfx) hO).mono ?_; clear hO; rintro e w5 ⟨v, h1, h2, hO⟩; cases h1; cases h2)
        refine hK.out _ _ (atCell (f2.out _ (hO.suf sfx)) (by simp [go_sem])) (fun hS => ?_)
        clear hK K
        try simp only [Act.put, sb, s0, sz]
        refine wpAnyH_ready (rs := [15, 17]) (by kernel_rfl) (by simp) ?_
        refine (AllReadyH.cons (o := ⟨some 35, .call { callee := .value (.func 16), args := #[.tmp 30, .tmp 34], argTypes := #[22, 9] }, _, _, _, none⟩) rfl (fun K hK => ?_) (AllReadyH.cons (o := ⟨some 8, .alloc 74, _, _, _, none⟩) rfl (fun K hK => ?_) AllReadyH.nil))
        focus
          (go_simp; refine (HB.out _ _ (HKB.out.suf sfx) hO).mono ?_; clear hO; rintro e w5 ⟨v, h1, h2, hO⟩; cases h1; cases h2)
          refine hK.out _ _ (atCell (f2.out _ (hO.suf sfx)) (by simp [go_sem])) (fun hS => ?_)
          clear hK K
          try simp only [Act.put, sb, s0, sz]
          refine takeW 16 ⟨some 36, .build 74 #[(0, .tmp 23), (1, .tmp 29), (2, .tmp 35)], _, _, _, none⟩ ?_ (.inl ⟨by rfl, ?_⟩) hS ?_; rotate_left; · (intro _ _; go_simp; (try with_reducible rfl))
          try simp only [Act.put, sb, s0, sz]
          refine wpAnyH_ready (rs := [17]) (by kernel_rfl) (by simp) ?_
          refine (AllReadyH.cons (o := ⟨some 8, .alloc 74, _, _, _, none⟩) rfl (fun K hK => ?_) AllReadyH.nil)
          (go_simp; replace hO := hO.alloc (.cells #[.string ⟨#[]⟩, .bool false, .bool false, .string ⟨#[]⟩, .bool false, .bool false, .string ⟨#[]⟩] 74))
          refine hK.out _ _ (atCell (f2.out _ (hO.suf sfx)) (by simp [go_sem])) (fun hS => ?_)
          clear hK K
          try simp only [Act.put, sb, s0, sz]
          refine wpAnyH_ready (rs := [18]) (by kernel_rfl) (by simp) ?_
          refine (AllReadyH.cons (o := ⟨none, .store 74 (.tmp 8) (.tmp 36), _, _, _, none⟩) rfl (fun K hK => ?_) AllReadyH.nil)
          (refine step_storeW hO 0 rfl (by rfl) (by rfl) (by rfl) (xs := chC ⟨key, ⟨st, sd, sb⟩, ⟨ut, ud, ub⟩⟩) (by rfl) Tryd.sizeOf74 rfl (chC_one _) rfl ?_; clear hO; intro w7 hO; simp only [List.set_cons_zero] at hO)
          refine hK.out _ _ (atCell (f2.out _ (hO.suf sfx)) (by simp [go_sem])) (fun hS => ?_)
          clear hK K
          try simp only [Act.put, sb, s0, sz]
          refine wpAnyH_done (by kernel_rfl) ?_ _
        rotate_right
        focus
          (go_simp; replace hO := hO.alloc (.cells #[.string ⟨#[]⟩, .bool false, .bool false, .string ⟨#[]⟩, .bool false, .bool false, .string ⟨#[]⟩] 74))
          refine hK.out _ _ (atCell (f2.out _ (hO.suf sfx)) (by simp [go_sem])) (fun hS => ?_)
          clear hK K
          try simp only [Act.put, sb, s0, sz]
          refine wpAnyH_ready (rs := [15]) (by kernel_rfl) (by simp) ?_
          refine (AllReadyH.cons (o := ⟨some 35, .call { callee := .value (.func 16), args := #[.tmp 30, .tmp 34], argTypes := #[22, 9] }, _, _, _, none⟩) rfl (fun K hK => ?_) AllReadyH.nil)
          (go_simp; refine (HB.out _ _ (HKB.out.suf sfx) hO).mono ?_; clear hO; rintro e w5 ⟨v, h1, h2, hO⟩; cases h1; cases h2)
          refine hK.out _ _ (atCell (f2.out _ (hO.suf sfx)) (by simp [go_sem])) (fun hS => ?_)
          clear hK K
          try simp only [Act.put, sb, s0, sz]
          refine takeW 16 ⟨some 36, .build 74 #[(0, .tmp 23), (1, .tmp 29), (2, .tmp 35)], _, _, _, none⟩ ?_ (.inl ⟨by rfl, ?_⟩) hS ?_; rotate_left; · (intro _ _; go_simp; (try with_reducible rfl))
          try simp only [Act.put, sb, s0, sz]
          refine wpAnyH_ready (rs := [18]) (by kernel_rfl) (by simp) ?_
          refine (AllReadyH.cons (o := ⟨none, .store 74 (.tmp 8) (.tmp 36), _, _, _, none⟩) rfl (fun K hK => ?_) AllReadyH.nil)
          (refine step_storeW hO 0 rfl (by rfl) (by rfl) (by rfl) (xs := chC ⟨key, ⟨st, sd, sb⟩, ⟨ut, ud, ub⟩⟩) (by rfl) Tryd.sizeOf74 rfl (chC_one _) rfl ?_; clear hO; intro w7 hO; simp only [List.set_cons_zero] at hO)
          refine hK.out _ _ (atCell (f2.out _ (hO.suf sfx)) (by simp [go_sem])) (fun hS => ?_)
          clear hK K
          try simp only [Act.put, sb, s0, sz]
          refine wpAnyH_done (by kernel_rfl) ?_ _
      rotate_right
      focus
        (go_simp; replace hO := hO.alloc (.cells #[.string ⟨#[]⟩, .bool false, .bool false, .string ⟨#[]⟩, .bool false, .bool false, .string ⟨#[]⟩] 74))
        refine hK.out _ _ (atCell (f2.out _ (hO.suf sfx)) (by simp [go_sem])) (fun hS => ?_)
        clear hK K
        try simp only [Act.put, sb, s0, sz]
        refine wpAnyH_ready (rs := [9]) (by kernel_rfl) (by simp) ?_
        refine (AllReadyH.cons (o := ⟨some 29, .call { callee := .value (.func 16), args := #[.tmp 24, .tmp 28], argTypes := #[22, 9] }, _, _, _, none⟩) rfl (fun K hK => ?_) AllReadyH.nil)
        (go_simp; refine (HA.out _ _ (HKA.out.suf sfx) hO).mono ?_; clear hO; rintro e w5 ⟨v, h1, h2, hO⟩; cases h1; cases h2)
        refine hK.out _ _ (atCell (f2.out _ (hO.suf sfx)) (by simp [go_sem])) (fun hS => ?_)
        clear hK K
        try simp only [Act.put, sb, s0, sz]
        refine wpAnyH_ready (rs := [15]) (by kernel_rfl) (by simp) ?_
        refine (AllReadyH.cons (o := ⟨some 35, .call { callee := .value (.func 16), args := #[.tmp 30, .tmp 34], argTypes := #[22, 9] }, _, _, _, none⟩) rfl (fun K hK => ?_) AllReadyH.nil)
        (go_simp; refine (HB.out _ _ (HKB.out.suf sfx) hO).mono ?_; clear hO; rintro e w5 ⟨v, h1, h2, hO⟩; cases h1; cases h2)
        refine hK.out _ _ (atCell (f2.out _ (hO.suf sfx)) (by simp [go_sem])) (fun hS => ?_)
        clear hK K
        try simp only [Act.put, sb, s0, sz]
        refine takeW 16 ⟨some 36, .build 74 #[(0, .tmp 23), (1, .tmp 29), (2, .tmp 35)], _, _, _, none⟩ ?_ (.inl ⟨by rfl, ?_⟩) hS ?_; rotate_left; · (intro _ _; go_simp; (try with_reducible rfl))
        try simp only [Act.put, sb, s0, sz]
        refine wpAnyH_ready (rs := [18]) (by kernel_rfl) (by simp) ?_
        refine (AllReadyH.cons (o := ⟨none, .store 74 (.tmp 8) (.tmp 36), _, _, _, none⟩) rfl (fun K hK => ?_) AllReadyH.nil)
        (refine step_storeW hO 0 rfl (by rfl) (by rfl) (by rfl) (xs := chC ⟨key, ⟨st, sd, sb⟩, ⟨ut, ud, ub⟩⟩) (by rfl) Tryd.sizeOf74 rfl (chC_one _) rfl ?_; clear hO; intro w7 hO; simp only [List.set_cons_zero] at hO)
        refine hK.out _ _ (atCell (f2.out _ (hO.suf sfx)) (by simp [go_sem])) (fun hS => ?_)
        clear hK K
        try simp only [Act.put, sb, s0, sz]
        refine wpAnyH_done (by kernel_rfl) ?_ _
      all_goals
        clear hS
        clear hE HA HB
        have hE := hO
        clear hO
        cases eq with
        | true =>
          rw [if_pos rfl] at HFk
          go_wp2_with (first
            | go_skip
            | ((with_reducible (show Go.wpList _ _ _ (Go.Oper.mk _ (.load 39 _) _ _ _ _ :: _) _ _)); first | refine wpl_loadA hE 0 rfl rfl rfl (off := 1) rfl Tryd.isAgg39 Tryd.sizeOf39 [.bool st, .bool sd, .string ⟨sb.toArray⟩] rfl (fun j hj => by match j, hj with | 0, _ => rfl | 1, _ => rfl | 2, _ => rfl) ?_ | refine wpl_loadA hE 0 rfl rfl rfl (off := 4) rfl Tryd.isAgg39 Tryd.sizeOf39 [.bool ut, .bool ud, .string ⟨ub.toArray⟩] rfl (fun j hj => by match j, hj with | 0, _ => rfl | 1, _ => rfl | 2, _ => rfl) ?_))
          go_roundw
          case rel => exact ⟨k + 1, ao, c, out, hlt, by first | rfl | simp, by rw [Hst.out, HFk.out]; simp, rfl, hE.tail⟩
          case measure => simp [intOf] <;> omega
        | false =>
          rw [if_neg (by decide)] at HFk
          go_wp2_with (first
            | go_skip
            | ((with_reducible (show Go.wpList _ _ _ (Go.Oper.mk _ (.load 39 _) _ _ _ _ :: _) _ _)); first | refine wpl_loadA hE 0 rfl rfl rfl (off := 1) rfl Tryd.isAgg39 Tryd.sizeOf39 [.bool st, .bool sd, .string ⟨sb.toArray⟩] rfl (fun j hj => by match j, hj with | 0, _ => rfl | 1, _ => rfl | 2, _ => rfl) ?_ | refine wpl_loadA hE 0 rfl rfl rfl (off := 4) rfl Tryd.isAgg39 Tryd.sizeOf39 [.bool ut, .bool ud, .string ⟨ub.toArray⟩] rfl (fun j hj => by match j, hj with | 0, _ => rfl | 1, _ => rfl | 2, _ => rfl) ?_)
            | ((with_reducible (show Go.wpList _ _ _ (Go.Oper.mk _ (.load 74 _) _ _ _ _ :: _) _ _)); refine wpl_loadW hE 0 rfl rfl rfl rfl Tryd.isAgg74 Tryd.sizeOf74 rfl ?_)
            | ((with_reducible (show Go.wpList _ _ _ (Go.Oper.mk _ (.buildSlice _ _ _) _ _ _ _ :: _) _ _)); refine wpl_build1 hE rfl rfl (xs := chC ⟨key, ⟨st, sd, sb⟩, ⟨ut, ud, ub⟩⟩) rfl Tryd.underlying33 zs_rch Tryd.sizeOf74 (by decide) (by decide) rfl ?_; clear hE; intro b9 w3 hE)
            | ((with_reducible (show Go.wpList _ _ _ (Go.Oper.mk _ (.call { callee := .builtin .append, args := _, argTypes := _ }) _ _ _ _ :: _) _ _)); refine wpl_appendG hE 2 rfl rfl rfl rfl rfl Tryd.underlying33 info_rch (by decide) (m := 1) (news := chC ⟨key, ⟨st, sd, sb⟩, ⟨ut, ud, ub⟩⟩) (reads_pt hE 0 rfl (off := 0) (fun j u hu => by rw [Nat.zero_add, List.getElem?_toArray]; exact hu)) rfl (chC_one _) (by omega) (by omega) ?_; clear hE; intro a7 c7 w6 hE; simp only [List.set_cons_zero, List.set_cons_succ] at hE))
          go_roundw
          case rel =>
            refine ⟨k + 1, a7, c7, out ++ [⟨key, ⟨st, sd, sb⟩, ⟨ut, ud, ub⟩⟩], hlt, by first | rfl | simp, by rw [Hst.out, HFk.out]; rfl, by simp, ?_⟩
            rw [← rowRc_add]
            exact hE.tail.tail
          case measure => simp [intOf] <;> omega
    · obtain rfl : k = all.length := by omega
      rw [List.take_length] at hout
      subst hout
      obtain ⟨m, hl⟩ := hl
      subst hl
      go_wp2
      go_ret
      exact ⟨_, rfl, ao, c, m, rfl, hE⟩
end Go.Proofs.YtcpgelpajppgdaaDoor
