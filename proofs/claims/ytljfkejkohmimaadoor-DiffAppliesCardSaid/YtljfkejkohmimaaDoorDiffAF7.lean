/-
  The document's tree: one more entry. Printed by gen_ta4.py.
-/
import Derived.Test.YtljfkejkohmimaaDoorDiffAF6
namespace Go.SL
variable {P : Program} {w : World} {l : List HProp} {ops : Array Oper} {o : Oper} {a : Act} {K : Act → World → Prop} {Q : Exit → Act → World → Prop} {E : Prop}
theorem step_appendNil {e : TypeId} {size bytes : Nat} {t : TypeId} (hE : Ent l w) {s y : Operand} (ho : o.op = .call { callee := .builtin .append, args := #[s, y], argTypes := #[t, t] }) (hw : Region.wanted o (yielded ops a.tmps) = true)
    (hs : a.eval s = .slice none 0 0) {x : Value} (hy : a.eval y = x) (ht : P.underlying t = some (.slice e)) (hI : elemInfo P e = some (some size, size, bytes)) (hsz : 0 < size)
    {m : Nat} {news : List Value} (hx : reads x m news w) (hl : news.length = m * size) (h1 : ∀ u ∈ news, u.oneCell' = true) (hbytes : m * bytes ≤ 140737488355328) (h63 : m ≤ 140737488355328)
    (h : ∀ ao' c' w', Ent (row e size (.slice ao' m c') m news :: l) w' → K (a.put o.dst (.slice ao' m c')) w') : if Region.wanted o (yielded ops a.tmps) = true then Oper.wp P o a w K Q else E := by
  refine step_appendG (hE.nil e size) 0 rfl ho hw hs hy ht hI hsz hx hl h1 (by simpa using hbytes) (by simpa using h63) (fun ao' c' w' h' => ?_)
  rw [Nat.zero_add, List.nil_append, List.set_cons_zero] at h'
  rw [Nat.zero_add]
  exact h ao' c' w' h'
end Go.SL
namespace Go.Proofs.YtljfkejkohmimaaDoor
open Go.RowKit Go.SL

theorem flat_one (L : List En) : ∀ u ∈ L.flatMap enC, u.oneCell' = true := by
  intro u hu
  obtain ⟨x, _, h⟩ := List.mem_flatMap.1 hu
  exact enC_one x u h
def addL (L : List En) (x : En) : List En := if addE L x = 0 then L ++ [x] else L
def AddPost (L : List En) (x : En) (ao : Option Addr) (c0 : Nat) (l : List HProp) (v : Value) (w' : World) : Prop :=
  ∃ (m : List HProp) (a : Option Addr) (c : Nat), v = .tuple #[.agg #[.slice a (addL L x).length c], .int .i64 (addE L x)] ∧ Ent (m ++ l) w' ∧
    ∀ lk, Knows lk (reads (.slice ao L.length c0) L.length (L.flatMap enC)) → Knows (m ++ lk) (reads (.slice a (addL L x).length c) (addL L x).length ((addL L x).flatMap enC))
theorem AddPost.bad {L : List En} {x : En} {l : List HProp} {er : Int} (h : addE L x = er ∧ er ≠ 0) {a : Option Addr} {c : Nat} {m : List HProp} {w : World} (hE : Ent (m ++ l) w) :
    AddPost L x a c l (.tuple #[.agg #[.slice a L.length c], .int .i64 er]) w := by
  obtain ⟨rfl, h0⟩ := h
  have e : addL L x = L := by rw [addL, if_neg h0]
  refine ⟨m, a, c, by rw [e], hE, fun lk hk => ?_⟩
  rw [e]
  exact hk.append
theorem AddPost.good {L : List En} {x : En} {l : List HProp} (h : addE L x = 0) {ao : Option Addr} {c0 : Nat} {a : Option Addr} {c : Nat} {m : List HProp} {w : World} (hk : ∀ lk, Knows (m ++ lk) (reads (.slice a (L.length + 1) c) (L.length + 1) (L.flatMap enC ++ enC x))) (hE : Ent (m ++ l) w) :
    AddPost L x ao c0 l (.tuple #[.agg #[.slice a (L.length + 1) c], .int .i64 0]) w := by
  have e : addL L x = L ++ [x] := by rw [addL, if_pos h]
  have e1 : (L ++ [x]).length = L.length + 1 := by simp
  have e2 : (L ++ [x]).flatMap enC = L.flatMap enC ++ enC x := by simp
  refine ⟨m, a, c, by rw [e, e1, h], hE, fun lk _ => ?_⟩
  rw [e, e1, e2]
  exact hk lk

set_option maxRecDepth 100000 in
set_option maxHeartbeats 16000000 in
attribute [-go_sem] Instr.loadAt in
theorem add_any {L : List En} (hL : L.length ≤ 1000) (hb : ∀ x ∈ L, x.path.length ≤ 1000000) (hn : (L.map En.path).Nodup) {xp : List UInt8} {xd : Bool} {xb : List UInt8} (hxp : xp.length ≤ 1000000) (hxb : xb.length ≤ 1000000) {ao : Option Addr} {c : Nat} {l : List HProp} {w : World} (hk : Knows l (reads (.slice ao L.length c) L.length (L.flatMap enC))) (hE : Ent l w) :
    Calls Tryd.prog 53 #[.agg #[.slice ao L.length c], .agg #[.string ⟨xp.toArray⟩, .bool xd, .string ⟨xb.toArray⟩]] w (Ret (AddPost L ⟨xp, xd, xb⟩ ao c l)) := by
  have HS := SL.hid (fun (L' : List HProp) (w : World) (h : Ent L' w) => rSplit_any hxp h)
  have HAt := SL.hid (fun (L' : List HProp) (w : World) (hs : l <:+ L') (h : Ent L' w) => at_any (by omega) xp (hk.suf hs) h)
  have HPa := SL.hid (fun (L' : List HProp) (w : World) (h : Ent L' w) => Parent_any hxp h)
  have HDi := SL.hid (fun (L' : List HProp) (w : World) (hs : l <:+ L') (h : Ent L' w) => dir_any (by omega) hn (parP xp) (hk.suf hs) h)
  have HKi := SL.hid (fun (L' : List HProp) (w : World) (hs : l <:+ L') (h : Ent L' w) => kids_any (by omega) hb (parP xp) (hk.suf hs) h)
  have HE := SL.hid (show addE L ⟨xp, xd, xb⟩ = if splitE xp ≠ 0 then splitE xp else if xp = [] ∨ (xd = true ∧ xb ≠ []) ∨ hasD L xp = true ∨ dirD L (parP xp) = false then 8 else if 8192 < xb.length ∨ 6 ≤ (kidsD L (parP xp)).length then 6 else 0 from rfl)
  rw [← atD_has, ← kidsI_len] at HE
  have hle := kidsI_le L (parP xp)
  generalize parP xp = pp at *
  generalize kidsI L pp = ki at *
  generalize dirD L pp = dd at *
  generalize atD L xp = ai at *
  generalize splitE xp = se at *
  generalize splitL xp = sl at *
  cases e0 : (se != 0) with
  | true =>
    have HB := SL.hid (show addE L ⟨xp, xd, xb⟩ = se ∧ se ≠ 0 from by
      have h : se ≠ 0 := by simpa using e0
      exact ⟨by rw [HE.out, if_pos h], h⟩)
    clear HE
    have Tok := SL.hid True.intro
    go_enter Tryd.func53, Tryd.ntmps53
    go_wp2_with (first
      | go_skip
      | ((with_reducible (show Go.wpList _ _ _ (Go.Oper.mk _ (.box _ _) _ _ _ _ :: _) _ _)); clear Tok; refine wpl_box hE rfl rfl rfl ?_; clear hE; intro b2 w hE; simp only [Act.eval, Act.put, List.setIfInBounds_toArray, List.set_cons_zero, List.set_cons_succ, getD_lit, List.getD_cons_succ, List.getD_cons_zero, Value.cells] at hE)
      | ((with_reducible (show Go.wpList _ _ _ (Go.Oper.mk _ (.box _ _) _ _ _ _ :: _) _ _)); refine wpl_box hE rfl rfl rfl ?_; clear hE; intro b3 w hE; simp only [Act.eval, Act.put, List.setIfInBounds_toArray, List.set_cons_zero, List.set_cons_succ, getD_lit, List.getD_cons_succ, List.getD_cons_zero, Value.cells] at hE)
      | ((with_reducible (show Go.wpList _ _ _ (Go.Oper.mk _ (.alloc _) _ _ _ _ :: _) _ _)); refine wpl_alloc hE rfl rfl (by simp [go_sem]; rfl) ?_; clear hE; intro b4 w hE; simp only [Act.eval, Act.put, List.setIfInBounds_toArray, List.set_cons_zero, List.set_cons_succ, getD_lit, List.getD_cons_succ, List.getD_cons_zero, Value.cells] at hE)
      | (go_at_call 50; refine (HS.out _ _ hE).mono ?_; clear hE; rintro e w3 ⟨v, rfl, an, cn, rfl, hE⟩; replace hE := hE.tail)
      | ((with_reducible (show Go.wpList _ _ _ (Go.Oper.mk _ (.load 78 _) _ _ _ _ :: _) _ _)); (first | (refine wpl_loadW hE 0 rfl rfl rfl rfl Tryd.isAgg78 Tryd.sizeOf78 rfl ?_) | (refine wpl_loadW hE 1 rfl rfl rfl rfl Tryd.isAgg78 Tryd.sizeOf78 rfl ?_) | (refine wpl_loadW hE 2 rfl rfl rfl rfl Tryd.isAgg78 Tryd.sizeOf78 rfl ?_) | (refine wpl_loadW hE 3 rfl rfl rfl rfl Tryd.isAgg78 Tryd.sizeOf78 rfl ?_) | (refine wpl_loadW hE 4 rfl rfl rfl rfl Tryd.isAgg78 Tryd.sizeOf78 rfl ?_) | (refine wpl_loadW hE 5 rfl rfl rfl rfl Tryd.isAgg78 Tryd.sizeOf78 rfl ?_) | (refine wpl_loadW hE 6 rfl rfl rfl rfl Tryd.isAgg78 Tryd.sizeOf78 rfl ?_) | (refine wpl_loadW hE 7 rfl rfl rfl rfl Tryd.isAgg78 Tryd.sizeOf78 rfl ?_)))
      | ((with_reducible (show Go.wpList _ _ _ (Go.Oper.mk _ (.store 78 _ _) _ _ _ _ :: _) _ _)); (first | (refine wpl_storeW hE 0 rfl rfl rfl (xs := [.slice ao L.length c]) rfl rfl Tryd.sizeOf78 rfl (by simp [Value.oneCell']) rfl ?_) | (refine wpl_storeW hE 1 rfl rfl rfl (xs := [.slice ao L.length c]) rfl rfl Tryd.sizeOf78 rfl (by simp [Value.oneCell']) rfl ?_) | (refine wpl_storeW hE 2 rfl rfl rfl (xs := [.slice ao L.length c]) rfl rfl Tryd.sizeOf78 rfl (by simp [Value.oneCell']) rfl ?_) | (refine wpl_storeW hE 3 rfl rfl rfl (xs := [.slice ao L.length c]) rfl rfl Tryd.sizeOf78 rfl (by simp [Value.oneCell']) rfl ?_) | (refine wpl_storeW hE 4 rfl rfl rfl (xs := [.slice ao L.length c]) rfl rfl Tryd.sizeOf78 rfl (by simp [Value.oneCell']) rfl ?_) | (refine wpl_storeW hE 5 rfl rfl rfl (xs := [.slice ao L.length c]) rfl rfl Tryd.sizeOf78 rfl (by simp [Value.oneCell']) rfl ?_) | (refine wpl_storeW hE 6 rfl rfl rfl (xs := [.slice ao L.length c]) rfl rfl Tryd.sizeOf78 rfl (by simp [Value.oneCell']) rfl ?_) | (refine wpl_storeW hE 7 rfl rfl rfl (xs := [.slice ao L.length c]) rfl rfl Tryd.sizeOf78 rfl (by simp [Value.oneCell']) rfl ?_)); clear hE; intro w hE; simp only [List.set_cons_zero, List.set_cons_succ] at hE)
      | ((with_reducible (show Go.wpList _ _ _ (Go.Oper.mk _ (.load _ _) _ _ _ _ :: _) _ _)); (first | (refine wpl_load1 hE 0 rfl rfl rfl rfl (by simp [go_sem]) rfl ?_) | (refine wpl_load1 hE 1 rfl rfl rfl rfl (by simp [go_sem]) rfl ?_) | (refine wpl_load1 hE 2 rfl rfl rfl rfl (by simp [go_sem]) rfl ?_) | (refine wpl_load1 hE 3 rfl rfl rfl rfl (by simp [go_sem]) rfl ?_) | (refine wpl_load1 hE 4 rfl rfl rfl rfl (by simp [go_sem]) rfl ?_) | (refine wpl_load1 hE 5 rfl rfl rfl rfl (by simp [go_sem]) rfl ?_) | (refine wpl_load1 hE 6 rfl rfl rfl rfl (by simp [go_sem]) rfl ?_) | (refine wpl_load1 hE 7 rfl rfl rfl rfl (by simp [go_sem]) rfl ?_))))
    refine bodyPost_ret (results_cell2 rfl hE 0 rfl rfl Tryd.isAgg78 Tryd.sizeOf78 rfl rfl) rfl ?_
    exact ⟨_, rfl, AddPost.bad HB.out (m := [_, _, _]) hE⟩
  | false =>
    obtain rfl : se = 0 := by simpa using e0
    have HE2 := SL.hid (HE.out.trans (if_neg (by simp)))
    clear HE e0
    have hmA := mkb xp []
    have hmB := mkb xb []
    have hmB2 : ((⟨xb.toArray⟩ : ByteArray) != ⟨#[]⟩) = !(xb == []) := by rw [bne, mkb]
    have Tok := SL.hid True.intro
    go_enter Tryd.func53, Tryd.ntmps53
    go_wp2_with (first
      | go_skip
      | ((with_reducible (show Go.wpList _ _ _ (Go.Oper.mk _ (.box _ _) _ _ _ _ :: _) _ _)); clear Tok; refine wpl_box hE rfl rfl rfl ?_; clear hE; intro b2 w hE; simp only [Act.eval, Act.put, List.setIfInBounds_toArray, List.set_cons_zero, List.set_cons_succ, getD_lit, List.getD_cons_succ, List.getD_cons_zero, Value.cells] at hE)
      | ((with_reducible (show Go.wpList _ _ _ (Go.Oper.mk _ (.box _ _) _ _ _ _ :: _) _ _)); refine wpl_box hE rfl rfl rfl ?_; clear hE; intro b3 w hE; simp only [Act.eval, Act.put, List.setIfInBounds_toArray, List.set_cons_zero, List.set_cons_succ, getD_lit, List.getD_cons_succ, List.getD_cons_zero, Value.cells] at hE)
      | ((with_reducible (show Go.wpList _ _ _ (Go.Oper.mk _ (.alloc _) _ _ _ _ :: _) _ _)); refine wpl_alloc hE rfl rfl (by simp [go_sem]; rfl) ?_; clear hE; intro b4 w hE; simp only [Act.eval, Act.put, List.setIfInBounds_toArray, List.set_cons_zero, List.set_cons_succ, getD_lit, List.getD_cons_succ, List.getD_cons_zero, Value.cells] at hE)
      | (go_at_call 50; refine (HS.out _ _ hE).mono ?_; clear hE; rintro e w3 ⟨v, rfl, an, cn, rfl, hE⟩; replace hE := hE.tail)
      | ((with_reducible (show Go.wpList _ _ _ (Go.Oper.mk _ (.load 78 _) _ _ _ _ :: _) _ _)); (first | (refine wpl_loadW hE 0 rfl rfl rfl rfl Tryd.isAgg78 Tryd.sizeOf78 rfl ?_) | (refine wpl_loadW hE 1 rfl rfl rfl rfl Tryd.isAgg78 Tryd.sizeOf78 rfl ?_) | (refine wpl_loadW hE 2 rfl rfl rfl rfl Tryd.isAgg78 Tryd.sizeOf78 rfl ?_) | (refine wpl_loadW hE 3 rfl rfl rfl rfl Tryd.isAgg78 Tryd.sizeOf78 rfl ?_) | (refine wpl_loadW hE 4 rfl rfl rfl rfl Tryd.isAgg78 Tryd.sizeOf78 rfl ?_) | (refine wpl_loadW hE 5 rfl rfl rfl rfl Tryd.isAgg78 Tryd.sizeOf78 rfl ?_) | (refine wpl_loadW hE 6 rfl rfl rfl rfl Tryd.isAgg78 Tryd.sizeOf78 rfl ?_) | (refine wpl_loadW hE 7 rfl rfl rfl rfl Tryd.isAgg78 Tryd.sizeOf78 rfl ?_)))
      | ((with_reducible (show Go.wpList _ _ _ (Go.Oper.mk _ (.store 78 _ _) _ _ _ _ :: _) _ _)); (first | (refine wpl_storeW hE 0 rfl rfl rfl (xs := [.slice ao L.length c]) rfl rfl Tryd.sizeOf78 rfl (by simp [Value.oneCell']) rfl ?_) | (refine wpl_storeW hE 1 rfl rfl rfl (xs := [.slice ao L.length c]) rfl rfl Tryd.sizeOf78 rfl (by simp [Value.oneCell']) rfl ?_) | (refine wpl_storeW hE 2 rfl rfl rfl (xs := [.slice ao L.length c]) rfl rfl Tryd.sizeOf78 rfl (by simp [Value.oneCell']) rfl ?_) | (refine wpl_storeW hE 3 rfl rfl rfl (xs := [.slice ao L.length c]) rfl rfl Tryd.sizeOf78 rfl (by simp [Value.oneCell']) rfl ?_) | (refine wpl_storeW hE 4 rfl rfl rfl (xs := [.slice ao L.length c]) rfl rfl Tryd.sizeOf78 rfl (by simp [Value.oneCell']) rfl ?_) | (refine wpl_storeW hE 5 rfl rfl rfl (xs := [.slice ao L.length c]) rfl rfl Tryd.sizeOf78 rfl (by simp [Value.oneCell']) rfl ?_) | (refine wpl_storeW hE 6 rfl rfl rfl (xs := [.slice ao L.length c]) rfl rfl Tryd.sizeOf78 rfl (by simp [Value.oneCell']) rfl ?_) | (refine wpl_storeW hE 7 rfl rfl rfl (xs := [.slice ao L.length c]) rfl rfl Tryd.sizeOf78 rfl (by simp [Value.oneCell']) rfl ?_)); clear hE; intro w hE; simp only [List.set_cons_zero, List.set_cons_succ] at hE)
      | ((with_reducible (show Go.wpList _ _ _ (Go.Oper.mk _ (.load _ _) _ _ _ _ :: _) _ _)); (first | (refine wpl_load1 hE 0 rfl rfl rfl rfl (by simp [go_sem]) rfl ?_) | (refine wpl_load1 hE 1 rfl rfl rfl rfl (by simp [go_sem]) rfl ?_) | (refine wpl_load1 hE 2 rfl rfl rfl rfl (by simp [go_sem]) rfl ?_) | (refine wpl_load1 hE 3 rfl rfl rfl rfl (by simp [go_sem]) rfl ?_) | (refine wpl_load1 hE 4 rfl rfl rfl rfl (by simp [go_sem]) rfl ?_) | (refine wpl_load1 hE 5 rfl rfl rfl rfl (by simp [go_sem]) rfl ?_) | (refine wpl_load1 hE 6 rfl rfl rfl rfl (by simp [go_sem]) rfl ?_) | (refine wpl_load1 hE 7 rfl rfl rfl rfl (by simp [go_sem]) rfl ?_))))
    cases hA : (xp == []) with
    | true =>
      rw [hA] at hmA
      have HB := SL.hid (show addE L _ = 8 ∧ (8 : Int) ≠ 0 from ⟨HE2.out.trans (if_pos (.inl (by simpa using hA))), by decide⟩)
      refine wp_region_held_drew (S := (fun w' => ((Instr.loadAt 9 (.pointer (some ⟨b3, 0, none⟩))).run Tryd.prog w' = .ok (.string ⟨xp.toArray⟩) w') ∧ ((Instr.loadAt 4 (.pointer (some ⟨b3, 1, none⟩))).run Tryd.prog w' = .ok (.bool xd) w') ∧ ((Instr.loadAt 9 (.pointer (some ⟨b3, 2, none⟩))).run Tryd.prog w' = .ok (.string ⟨xb.toArray⟩) w') ∧ ((Instr.loadAt 78 (.pointer (some ⟨b2, 0, none⟩))).run Tryd.prog w' = .ok (.agg [.slice ao L.length c].toArray) w'))) (by kernel_rfl) ⟨(atVm hE.drew (by repeat (first | exact List.Mem.head _ | refine List.Mem.tail _ ?_)) (by simp [go_sem]) rfl), (atVm hE.drew (by repeat (first | exact List.Mem.head _ | refine List.Mem.tail _ ?_)) (by simp [go_sem]) rfl), (atVm hE.drew (by repeat (first | exact List.Mem.head _ | refine List.Mem.tail _ ?_)) (by simp [go_sem]) rfl), (atWm hE.drew (by repeat (first | exact List.Mem.head _ | refine List.Mem.tail _ ?_)) Tryd.isAgg78 Tryd.sizeOf78 rfl)⟩ (fun hS => ?_)
      refine tV 0 ⟨some 18, .fieldAddr 53 (.tmp 3) 0, _, _, _, none⟩ hS ?_
      refine tL 1 ⟨some 19, .load 9 (.tmp 18), _, _, _, none⟩ hS ?_
      refine tV 2 ⟨some 20, .binOp .eql 9 (.tmp 19) (.const (.string { data := #[] })) 9, _, _, _, none⟩ hS ?_
      refine tV 3 ⟨some 21, .move (.tmp 20), _, _, _, none⟩ hS ?_
      refine tU 4 ⟨some 22, .fieldAddr 53 (.tmp 3) 1, _, _, _, some (3, false)⟩ hS ?_
      refine tU 5 ⟨some 23, .load 4 (.tmp 22), _, _, _, some (3, false)⟩ hS ?_
      refine tU 6 ⟨some 24, .move (.tmp 23), _, _, _, some (3, false)⟩ hS ?_
      refine tU 7 ⟨some 25, .fieldAddr 53 (.tmp 3) 2, _, _, _, some (6, true)⟩ hS ?_
      refine tU 8 ⟨some 26, .load 9 (.tmp 25), _, _, _, some (6, true)⟩ hS ?_
      refine tU 9 ⟨some 27, .binOp .neq 9 (.tmp 26) (.const (.string { data := #[] })) 9, _, _, _, some (6, true)⟩ hS ?_
      refine tU 10 ⟨some 28, .pick (.tmp 24) (.tmp 27) (.const (.bool false)), _, _, _, some (3, false)⟩ hS ?_
      refine tV 11 ⟨some 29, .pick (.tmp 21) (.const (.bool true)) (.tmp 28), _, _, _, none⟩ hS ?_
      refine tV 12 ⟨some 30, .move (.tmp 29), _, _, _, none⟩ hS ?_
      refine tU 13 ⟨some 31, .load 78 (.tmp 2), _, _, _, some (12, false)⟩ hS ?_
      refine tU 14 ⟨some 32, .fieldAddr 53 (.tmp 3) 0, _, _, _, some (12, false)⟩ hS ?_
      refine tU 15 ⟨some 33, .load 9 (.tmp 32), _, _, _, some (12, false)⟩ hS ?_
      refine tU 16 ⟨some 34, .call { callee := .value (.func 64), args := #[.tmp 31, .tmp 33], argTypes := #[78, 9] }, _, _, _, some (12, false)⟩ hS ?_
      refine tU 17 ⟨some 35, .binOp .geq 3 (.tmp 34) (.const (.int .i64 0)) 3, _, _, _, some (12, false)⟩ hS ?_
      refine tV 18 ⟨some 36, .pick (.tmp 30) (.const (.bool true)) (.tmp 35), _, _, _, none⟩ hS ?_
      refine tV 19 ⟨some 37, .move (.tmp 36), _, _, _, none⟩ hS ?_
      refine tU 20 ⟨some 38, .load 78 (.tmp 2), _, _, _, some (19, false)⟩ hS ?_
      refine tU 21 ⟨some 39, .fieldAddr 53 (.tmp 3) 0, _, _, _, some (19, false)⟩ hS ?_
      refine tU 22 ⟨some 40, .load 9 (.tmp 39), _, _, _, some (19, false)⟩ hS ?_
      refine tU 23 ⟨some 41, .call { callee := .value (.func 66), args := #[.tmp 40], argTypes := #[9] }, _, _, _, some (19, false)⟩ hS ?_
      refine tU 24 ⟨some 42, .call { callee := .value (.func 65), args := #[.tmp 38, .tmp 41], argTypes := #[78, 9] }, _, _, _, some (19, false)⟩ hS ?_
      refine tU 25 ⟨some 43, .unOp Go.UnOp.not 4 (.tmp 42), _, _, _, some (19, false)⟩ hS ?_
      refine tV 26 ⟨some 44, .pick (.tmp 37) (.const (.bool true)) (.tmp 43), _, _, _, none⟩ hS ?_
      refine wpAnyH_done (by kernel_rfl) ?_ _
      replace hE := hE.drew
      clear hS
      clear HE2
      go_wp2_with (first
        | go_skip
        | ((with_reducible (show Go.wpList _ _ _ (Go.Oper.mk _ (.load 78 _) _ _ _ _ :: _) _ _)); (first | (refine wpl_loadW hE 0 rfl rfl rfl rfl Tryd.isAgg78 Tryd.sizeOf78 rfl ?_) | (refine wpl_loadW hE 1 rfl rfl rfl rfl Tryd.isAgg78 Tryd.sizeOf78 rfl ?_) | (refine wpl_loadW hE 2 rfl rfl rfl rfl Tryd.isAgg78 Tryd.sizeOf78 rfl ?_) | (refine wpl_loadW hE 3 rfl rfl rfl rfl Tryd.isAgg78 Tryd.sizeOf78 rfl ?_) | (refine wpl_loadW hE 4 rfl rfl rfl rfl Tryd.isAgg78 Tryd.sizeOf78 rfl ?_) | (refine wpl_loadW hE 5 rfl rfl rfl rfl Tryd.isAgg78 Tryd.sizeOf78 rfl ?_) | (refine wpl_loadW hE 6 rfl rfl rfl rfl Tryd.isAgg78 Tryd.sizeOf78 rfl ?_) | (refine wpl_loadW hE 7 rfl rfl rfl rfl Tryd.isAgg78 Tryd.sizeOf78 rfl ?_)))
        | ((with_reducible (show Go.wpList _ _ _ (Go.Oper.mk _ (.store 78 _ _) _ _ _ _ :: _) _ _)); (first | (refine wpl_storeW hE 0 rfl rfl rfl (xs := [.slice ao L.length c]) rfl rfl Tryd.sizeOf78 rfl (by simp [Value.oneCell']) rfl ?_) | (refine wpl_storeW hE 1 rfl rfl rfl (xs := [.slice ao L.length c]) rfl rfl Tryd.sizeOf78 rfl (by simp [Value.oneCell']) rfl ?_) | (refine wpl_storeW hE 2 rfl rfl rfl (xs := [.slice ao L.length c]) rfl rfl Tryd.sizeOf78 rfl (by simp [Value.oneCell']) rfl ?_) | (refine wpl_storeW hE 3 rfl rfl rfl (xs := [.slice ao L.length c]) rfl rfl Tryd.sizeOf78 rfl (by simp [Value.oneCell']) rfl ?_) | (refine wpl_storeW hE 4 rfl rfl rfl (xs := [.slice ao L.length c]) rfl rfl Tryd.sizeOf78 rfl (by simp [Value.oneCell']) rfl ?_) | (refine wpl_storeW hE 5 rfl rfl rfl (xs := [.slice ao L.length c]) rfl rfl Tryd.sizeOf78 rfl (by simp [Value.oneCell']) rfl ?_) | (refine wpl_storeW hE 6 rfl rfl rfl (xs := [.slice ao L.length c]) rfl rfl Tryd.sizeOf78 rfl (by simp [Value.oneCell']) rfl ?_) | (refine wpl_storeW hE 7 rfl rfl rfl (xs := [.slice ao L.length c]) rfl rfl Tryd.sizeOf78 rfl (by simp [Value.oneCell']) rfl ?_)); clear hE; intro w hE; simp only [List.set_cons_zero, List.set_cons_succ] at hE))
      refine bodyPost_ret (results_cell2 rfl hE 0 rfl rfl Tryd.isAgg78 Tryd.sizeOf78 rfl rfl) rfl ?_
      exact ⟨_, rfl, AddPost.bad HB.out (m := [_, _, _]) hE⟩
    | false =>
      rw [hA] at hmA
      cases xd with
      | true =>
        cases hB : (xb == []) with
        | false =>
          rw [hB] at hmB hmB2
          have HB := SL.hid (show addE L _ = 8 ∧ (8 : Int) ≠ 0 from ⟨HE2.out.trans (if_pos (.inr (.inl ⟨rfl, by simpa using hB⟩))), by decide⟩)
          refine wp_region_held_drew (S := (fun w' => ((Instr.loadAt 9 (.pointer (some ⟨b3, 0, none⟩))).run Tryd.prog w' = .ok (.string ⟨xp.toArray⟩) w') ∧ ((Instr.loadAt 4 (.pointer (some ⟨b3, 1, none⟩))).run Tryd.prog w' = .ok (.bool true) w') ∧ ((Instr.loadAt 9 (.pointer (some ⟨b3, 2, none⟩))).run Tryd.prog w' = .ok (.string ⟨xb.toArray⟩) w') ∧ ((Instr.loadAt 78 (.pointer (some ⟨b2, 0, none⟩))).run Tryd.prog w' = .ok (.agg [.slice ao L.length c].toArray) w'))) (by kernel_rfl) ⟨(atVm hE.drew (by repeat (first | exact List.Mem.head _ | refine List.Mem.tail _ ?_)) (by simp [go_sem]) rfl), (atVm hE.drew (by repeat (first | exact List.Mem.head _ | refine List.Mem.tail _ ?_)) (by simp [go_sem]) rfl), (atVm hE.drew (by repeat (first | exact List.Mem.head _ | refine List.Mem.tail _ ?_)) (by simp [go_sem]) rfl), (atWm hE.drew (by repeat (first | exact List.Mem.head _ | refine List.Mem.tail _ ?_)) Tryd.isAgg78 Tryd.sizeOf78 rfl)⟩ (fun hS => ?_)
          refine tV 0 ⟨some 18, .fieldAddr 53 (.tmp 3) 0, _, _, _, none⟩ hS ?_
          refine tL 1 ⟨some 19, .load 9 (.tmp 18), _, _, _, none⟩ hS ?_
          refine tV 2 ⟨some 20, .binOp .eql 9 (.tmp 19) (.const (.string { data := #[] })) 9, _, _, _, none⟩ hS ?_
          refine tV 3 ⟨some 21, .move (.tmp 20), _, _, _, none⟩ hS ?_
          refine tV 4 ⟨some 22, .fieldAddr 53 (.tmp 3) 1, _, _, _, some (3, false)⟩ hS ?_
          refine tL 5 ⟨some 23, .load 4 (.tmp 22), _, _, _, some (3, false)⟩ hS ?_
          refine tV 6 ⟨some 24, .move (.tmp 23), _, _, _, some (3, false)⟩ hS ?_
          refine tV 7 ⟨some 25, .fieldAddr 53 (.tmp 3) 2, _, _, _, some (6, true)⟩ hS ?_
          refine tL 8 ⟨some 26, .load 9 (.tmp 25), _, _, _, some (6, true)⟩ hS ?_
          refine tV 9 ⟨some 27, .binOp .neq 9 (.tmp 26) (.const (.string { data := #[] })) 9, _, _, _, some (6, true)⟩ hS ?_
          refine tV 10 ⟨some 28, .pick (.tmp 24) (.tmp 27) (.const (.bool false)), _, _, _, some (3, false)⟩ hS ?_
          refine tV 11 ⟨some 29, .pick (.tmp 21) (.const (.bool true)) (.tmp 28), _, _, _, none⟩ hS ?_
          refine tV 12 ⟨some 30, .move (.tmp 29), _, _, _, none⟩ hS ?_
          refine tU 13 ⟨some 31, .load 78 (.tmp 2), _, _, _, some (12, false)⟩ hS ?_
          refine tU 14 ⟨some 32, .fieldAddr 53 (.tmp 3) 0, _, _, _, some (12, false)⟩ hS ?_
          refine tU 15 ⟨some 33, .load 9 (.tmp 32), _, _, _, some (12, false)⟩ hS ?_
          refine tU 16 ⟨some 34, .call { callee := .value (.func 64), args := #[.tmp 31, .tmp 33], argTypes := #[78, 9] }, _, _, _, some (12, false)⟩ hS ?_
          refine tU 17 ⟨some 35, .binOp .geq 3 (.tmp 34) (.const (.int .i64 0)) 3, _, _, _, some (12, false)⟩ hS ?_
          refine tV 18 ⟨some 36, .pick (.tmp 30) (.const (.bool true)) (.tmp 35), _, _, _, none⟩ hS ?_
          refine tV 19 ⟨some 37, .move (.tmp 36), _, _, _, none⟩ hS ?_
          refine tU 20 ⟨some 38, .load 78 (.tmp 2), _, _, _, some (19, false)⟩ hS ?_
          refine tU 21 ⟨some 39, .fieldAddr 53 (.tmp 3) 0, _, _, _, some (19, false)⟩ hS ?_
          refine tU 22 ⟨some 40, .load 9 (.tmp 39), _, _, _, some (19, false)⟩ hS ?_
          refine tU 23 ⟨some 41, .call { callee := .value (.func 66), args := #[.tmp 40], argTypes := #[9] }, _, _, _, some (19, false)⟩ hS ?_
          refine tU 24 ⟨some 42, .call { callee := .value (.func 65), args := #[.tmp 38, .tmp 41], argTypes := #[78, 9] }, _, _, _, some (19, false)⟩ hS ?_
          refine tU 25 ⟨some 43, .unOp Go.UnOp.not 4 (.tmp 42), _, _, _, some (19, false)⟩ hS ?_
          refine tV 26 ⟨some 44, .pick (.tmp 37) (.const (.bool true)) (.tmp 43), _, _, _, none⟩ hS ?_
          refine wpAnyH_done (by kernel_rfl) ?_ _
          replace hE := hE.drew
          clear hS
          clear HE2
          go_wp2_with (first
            | go_skip
            | ((with_reducible (show Go.wpList _ _ _ (Go.Oper.mk _ (.load 78 _) _ _ _ _ :: _) _ _)); (first | (refine wpl_loadW hE 0 rfl rfl rfl rfl Tryd.isAgg78 Tryd.sizeOf78 rfl ?_) | (refine wpl_loadW hE 1 rfl rfl rfl rfl Tryd.isAgg78 Tryd.sizeOf78 rfl ?_) | (refine wpl_loadW hE 2 rfl rfl rfl rfl Tryd.isAgg78 Tryd.sizeOf78 rfl ?_) | (refine wpl_loadW hE 3 rfl rfl rfl rfl Tryd.isAgg78 Tryd.sizeOf78 rfl ?_) | (refine wpl_loadW hE 4 rfl rfl rfl rfl Tryd.isAgg78 Tryd.sizeOf78 rfl ?_) | (refine wpl_loadW hE 5 rfl rfl rfl rfl Tryd.isAgg78 Tryd.sizeOf78 rfl ?_) | (refine wpl_loadW hE 6 rfl rfl rfl rfl Tryd.isAgg78 Tryd.sizeOf78 rfl ?_) | (refine wpl_loadW hE 7 rfl rfl rfl rfl Tryd.isAgg78 Tryd.sizeOf78 rfl ?_)))
            | ((with_reducible (show Go.wpList _ _ _ (Go.Oper.mk _ (.store 78 _ _) _ _ _ _ :: _) _ _)); (first | (refine wpl_storeW hE 0 rfl rfl rfl (xs := [.slice ao L.length c]) rfl rfl Tryd.sizeOf78 rfl (by simp [Value.oneCell']) rfl ?_) | (refine wpl_storeW hE 1 rfl rfl rfl (xs := [.slice ao L.length c]) rfl rfl Tryd.sizeOf78 rfl (by simp [Value.oneCell']) rfl ?_) | (refine wpl_storeW hE 2 rfl rfl rfl (xs := [.slice ao L.length c]) rfl rfl Tryd.sizeOf78 rfl (by simp [Value.oneCell']) rfl ?_) | (refine wpl_storeW hE 3 rfl rfl rfl (xs := [.slice ao L.length c]) rfl rfl Tryd.sizeOf78 rfl (by simp [Value.oneCell']) rfl ?_) | (refine wpl_storeW hE 4 rfl rfl rfl (xs := [.slice ao L.length c]) rfl rfl Tryd.sizeOf78 rfl (by simp [Value.oneCell']) rfl ?_) | (refine wpl_storeW hE 5 rfl rfl rfl (xs := [.slice ao L.length c]) rfl rfl Tryd.sizeOf78 rfl (by simp [Value.oneCell']) rfl ?_) | (refine wpl_storeW hE 6 rfl rfl rfl (xs := [.slice ao L.length c]) rfl rfl Tryd.sizeOf78 rfl (by simp [Value.oneCell']) rfl ?_) | (refine wpl_storeW hE 7 rfl rfl rfl (xs := [.slice ao L.length c]) rfl rfl Tryd.sizeOf78 rfl (by simp [Value.oneCell']) rfl ?_)); clear hE; intro w hE; simp only [List.set_cons_zero, List.set_cons_succ] at hE))
          refine bodyPost_ret (results_cell2 rfl hE 0 rfl rfl Tryd.isAgg78 Tryd.sizeOf78 rfl rfl) rfl ?_
          exact ⟨_, rfl, AddPost.bad HB.out (m := [_, _, _]) hE⟩
        | true =>
          rw [hB] at hmB hmB2
          by_cases hC : 0 ≤ ai
          · skip
            have HB := SL.hid (show addE L _ = 8 ∧ (8 : Int) ≠ 0 from ⟨HE2.out.trans (if_pos (.inr (.inr (.inl (by simp [hC]))))), by decide⟩)
            refine wp_region_held_drew (S := (fun w' => ((Instr.loadAt 9 (.pointer (some ⟨b3, 0, none⟩))).run Tryd.prog w' = .ok (.string ⟨xp.toArray⟩) w') ∧ ((Instr.loadAt 4 (.pointer (some ⟨b3, 1, none⟩))).run Tryd.prog w' = .ok (.bool true) w') ∧ ((Instr.loadAt 9 (.pointer (some ⟨b3, 2, none⟩))).run Tryd.prog w' = .ok (.string ⟨xb.toArray⟩) w') ∧ ((Instr.loadAt 78 (.pointer (some ⟨b2, 0, none⟩))).run Tryd.prog w' = .ok (.agg [.slice ao L.length c].toArray) w'))) (by kernel_rfl) ⟨(atVm hE.drew (by repeat (first | exact List.Mem.head _ | refine List.Mem.tail _ ?_)) (by simp [go_sem]) rfl), (atVm hE.drew (by repeat (first | exact List.Mem.head _ | refine List.Mem.tail _ ?_)) (by simp [go_sem]) rfl), (atVm hE.drew (by repeat (first | exact List.Mem.head _ | refine List.Mem.tail _ ?_)) (by simp [go_sem]) rfl), (atWm hE.drew (by repeat (first | exact List.Mem.head _ | refine List.Mem.tail _ ?_)) Tryd.isAgg78 Tryd.sizeOf78 rfl)⟩ (fun hS => ?_)
            refine tV 0 ⟨some 18, .fieldAddr 53 (.tmp 3) 0, _, _, _, none⟩ hS ?_
            refine tL 1 ⟨some 19, .load 9 (.tmp 18), _, _, _, none⟩ hS ?_
            refine tV 2 ⟨some 20, .binOp .eql 9 (.tmp 19) (.const (.string { data := #[] })) 9, _, _, _, none⟩ hS ?_
            refine tV 3 ⟨some 21, .move (.tmp 20), _, _, _, none⟩ hS ?_
            refine tV 4 ⟨some 22, .fieldAddr 53 (.tmp 3) 1, _, _, _, some (3, false)⟩ hS ?_
            refine tL 5 ⟨some 23, .load 4 (.tmp 22), _, _, _, some (3, false)⟩ hS ?_
            refine tV 6 ⟨some 24, .move (.tmp 23), _, _, _, some (3, false)⟩ hS ?_
            refine tV 7 ⟨some 25, .fieldAddr 53 (.tmp 3) 2, _, _, _, some (6, true)⟩ hS ?_
            refine tL 8 ⟨some 26, .load 9 (.tmp 25), _, _, _, some (6, true)⟩ hS ?_
            refine tV 9 ⟨some 27, .binOp .neq 9 (.tmp 26) (.const (.string { data := #[] })) 9, _, _, _, some (6, true)⟩ hS ?_
            refine tV 10 ⟨some 28, .pick (.tmp 24) (.tmp 27) (.const (.bool false)), _, _, _, some (3, false)⟩ hS ?_
            refine tV 11 ⟨some 29, .pick (.tmp 21) (.const (.bool true)) (.tmp 28), _, _, _, none⟩ hS ?_
            refine tV 12 ⟨some 30, .move (.tmp 29), _, _, _, none⟩ hS ?_
            refine tL 13 ⟨some 31, .load 78 (.tmp 2), _, _, _, some (12, false)⟩ hS ?_
            refine tV 14 ⟨some 32, .fieldAddr 53 (.tmp 3) 0, _, _, _, some (12, false)⟩ hS ?_
            refine tL 15 ⟨some 33, .load 9 (.tmp 32), _, _, _, some (12, false)⟩ hS ?_
            refine wpAnyH_ready (rs := [16]) (by kernel_rfl) (by simp) ?_
            refine (AllReadyH.cons (o := ⟨some 34, .call { callee := .value (.func 64), args := #[.tmp 31, .tmp 33], argTypes := #[78, 9] }, _, _, _, some (12, false)⟩) rfl (fun K hK => ?_) AllReadyH.nil)
            (go_simp; refine (HAt.out _ _ sfx hE.drew).mono ?_; rintro e w3 ⟨v, rfl, rfl, hA1⟩)
            refine hK.out _ _ ⟨(atVm hA1 (by repeat (first | exact List.Mem.head _ | refine List.Mem.tail _ ?_)) (by simp [go_sem]) rfl), (atVm hA1 (by repeat (first | exact List.Mem.head _ | refine List.Mem.tail _ ?_)) (by simp [go_sem]) rfl), (atVm hA1 (by repeat (first | exact List.Mem.head _ | refine List.Mem.tail _ ?_)) (by simp [go_sem]) rfl), (atWm hA1 (by repeat (first | exact List.Mem.head _ | refine List.Mem.tail _ ?_)) Tryd.isAgg78 Tryd.sizeOf78 rfl)⟩ (fun hS => ?_)
            clear hK K
            try simp only [Act.put, sb, s0, sz]
            refine tV 17 ⟨some 35, .binOp .geq 3 (.tmp 34) (.const (.int .i64 0)) 3, _, _, _, some (12, false)⟩ hS ?_
            refine tV 18 ⟨some 36, .pick (.tmp 30) (.const (.bool true)) (.tmp 35), _, _, _, none⟩ hS ?_
            refine tV 19 ⟨some 37, .move (.tmp 36), _, _, _, none⟩ hS ?_
            refine tU 20 ⟨some 38, .load 78 (.tmp 2), _, _, _, some (19, false)⟩ hS ?_
            refine tU 21 ⟨some 39, .fieldAddr 53 (.tmp 3) 0, _, _, _, some (19, false)⟩ hS ?_
            refine tU 22 ⟨some 40, .load 9 (.tmp 39), _, _, _, some (19, false)⟩ hS ?_
            refine tU 23 ⟨some 41, .call { callee := .value (.func 66), args := #[.tmp 40], argTypes := #[9] }, _, _, _, some (19, false)⟩ hS ?_
            refine tU 24 ⟨some 42, .call { callee := .value (.func 65), args := #[.tmp 38, .tmp 41], argTypes := #[78, 9] }, _, _, _, some (19, false)⟩ hS ?_
            refine tU 25 ⟨some 43, .unOp Go.UnOp.not 4 (.tmp 42), _, _, _, some (19, false)⟩ hS ?_
            refine tV 26 ⟨some 44, .pick (.tmp 37) (.const (.bool true)) (.tmp 43), _, _, _, none⟩ hS ?_
            refine wpAnyH_done (by kernel_rfl) ?_ _
            replace hE := hA1
            clear hS
            try clear hA1
            try clear hA2
            try clear hA3
            clear HE2
            go_wp2_with (first
              | go_skip
              | ((with_reducible (show Go.wpList _ _ _ (Go.Oper.mk _ (.load 78 _) _ _ _ _ :: _) _ _)); (first | (refine wpl_loadW hE 0 rfl rfl rfl rfl Tryd.isAgg78 Tryd.sizeOf78 rfl ?_) | (refine wpl_loadW hE 1 rfl rfl rfl rfl Tryd.isAgg78 Tryd.sizeOf78 rfl ?_) | (refine wpl_loadW hE 2 rfl rfl rfl rfl Tryd.isAgg78 Tryd.sizeOf78 rfl ?_) | (refine wpl_loadW hE 3 rfl rfl rfl rfl Tryd.isAgg78 Tryd.sizeOf78 rfl ?_) | (refine wpl_loadW hE 4 rfl rfl rfl rfl Tryd.isAgg78 Tryd.sizeOf78 rfl ?_) | (refine wpl_loadW hE 5 rfl rfl rfl rfl Tryd.isAgg78 Tryd.sizeOf78 rfl ?_) | (refine wpl_loadW hE 6 rfl rfl rfl rfl Tryd.isAgg78 Tryd.sizeOf78 rfl ?_) | (refine wpl_loadW hE 7 rfl rfl rfl rfl Tryd.isAgg78 Tryd.sizeOf78 rfl ?_)))
              | ((with_reducible (show Go.wpList _ _ _ (Go.Oper.mk _ (.store 78 _ _) _ _ _ _ :: _) _ _)); (first | (refine wpl_storeW hE 0 rfl rfl rfl (xs := [.slice ao L.length c]) rfl rfl Tryd.sizeOf78 rfl (by simp [Value.oneCell']) rfl ?_) | (refine wpl_storeW hE 1 rfl rfl rfl (xs := [.slice ao L.length c]) rfl rfl Tryd.sizeOf78 rfl (by simp [Value.oneCell']) rfl ?_) | (refine wpl_storeW hE 2 rfl rfl rfl (xs := [.slice ao L.length c]) rfl rfl Tryd.sizeOf78 rfl (by simp [Value.oneCell']) rfl ?_) | (refine wpl_storeW hE 3 rfl rfl rfl (xs := [.slice ao L.length c]) rfl rfl Tryd.sizeOf78 rfl (by simp [Value.oneCell']) rfl ?_) | (refine wpl_storeW hE 4 rfl rfl rfl (xs := [.slice ao L.length c]) rfl rfl Tryd.sizeOf78 rfl (by simp [Value.oneCell']) rfl ?_) | (refine wpl_storeW hE 5 rfl rfl rfl (xs := [.slice ao L.length c]) rfl rfl Tryd.sizeOf78 rfl (by simp [Value.oneCell']) rfl ?_) | (refine wpl_storeW hE 6 rfl rfl rfl (xs := [.slice ao L.length c]) rfl rfl Tryd.sizeOf78 rfl (by simp [Value.oneCell']) rfl ?_) | (refine wpl_storeW hE 7 rfl rfl rfl (xs := [.slice ao L.length c]) rfl rfl Tryd.sizeOf78 rfl (by simp [Value.oneCell']) rfl ?_)); clear hE; intro w hE; simp only [List.set_cons_zero, List.set_cons_succ] at hE))
            refine bodyPost_ret (results_cell2 rfl hE 0 rfl rfl Tryd.isAgg78 Tryd.sizeOf78 rfl rfl) rfl ?_
            exact ⟨_, rfl, AddPost.bad HB.out (m := [_, _, _]) hE⟩
          · cases dd with
            | false =>
              have HB := SL.hid (show addE L _ = 8 ∧ (8 : Int) ≠ 0 from ⟨HE2.out.trans (if_pos (.inr (.inr (.inr rfl)))), by decide⟩)
              refine wp_region_held_drew (S := (fun w' => ((Instr.loadAt 9 (.pointer (some ⟨b3, 0, none⟩))).run Tryd.prog w' = .ok (.string ⟨xp.toArray⟩) w') ∧ ((Instr.loadAt 4 (.pointer (some ⟨b3, 1, none⟩))).run Tryd.prog w' = .ok (.bool true) w') ∧ ((Instr.loadAt 9 (.pointer (some ⟨b3, 2, none⟩))).run Tryd.prog w' = .ok (.string ⟨xb.toArray⟩) w') ∧ ((Instr.loadAt 78 (.pointer (some ⟨b2, 0, none⟩))).run Tryd.prog w' = .ok (.agg [.slice ao L.length c].toArray) w'))) (by kernel_rfl) ⟨(atVm hE.drew (by repeat (first | exact List.Mem.head _ | refine List.Mem.tail _ ?_)) (by simp [go_sem]) rfl), (atVm hE.drew (by repeat (first | exact List.Mem.head _ | refine List.Mem.tail _ ?_)) (by simp [go_sem]) rfl), (atVm hE.drew (by repeat (first | exact List.Mem.head _ | refine List.Mem.tail _ ?_)) (by simp [go_sem]) rfl), (atWm hE.drew (by repeat (first | exact List.Mem.head _ | refine List.Mem.tail _ ?_)) Tryd.isAgg78 Tryd.sizeOf78 rfl)⟩ (fun hS => ?_)
              refine tV 0 ⟨some 18, .fieldAddr 53 (.tmp 3) 0, _, _, _, none⟩ hS ?_
              refine tL 1 ⟨some 19, .load 9 (.tmp 18), _, _, _, none⟩ hS ?_
              refine tV 2 ⟨some 20, .binOp .eql 9 (.tmp 19) (.const (.string { data := #[] })) 9, _, _, _, none⟩ hS ?_
              refine tV 3 ⟨some 21, .move (.tmp 20), _, _, _, none⟩ hS ?_
              refine tV 4 ⟨some 22, .fieldAddr 53 (.tmp 3) 1, _, _, _, some (3, false)⟩ hS ?_
              refine tL 5 ⟨some 23, .load 4 (.tmp 22), _, _, _, some (3, false)⟩ hS ?_
              refine tV 6 ⟨some 24, .move (.tmp 23), _, _, _, some (3, false)⟩ hS ?_
              refine tV 7 ⟨some 25, .fieldAddr 53 (.tmp 3) 2, _, _, _, some (6, true)⟩ hS ?_
              refine tL 8 ⟨some 26, .load 9 (.tmp 25), _, _, _, some (6, true)⟩ hS ?_
              refine tV 9 ⟨some 27, .binOp .neq 9 (.tmp 26) (.const (.string { data := #[] })) 9, _, _, _, some (6, true)⟩ hS ?_
              refine tV 10 ⟨some 28, .pick (.tmp 24) (.tmp 27) (.const (.bool false)), _, _, _, some (3, false)⟩ hS ?_
              refine tV 11 ⟨some 29, .pick (.tmp 21) (.const (.bool true)) (.tmp 28), _, _, _, none⟩ hS ?_
              refine tV 12 ⟨some 30, .move (.tmp 29), _, _, _, none⟩ hS ?_
              refine tL 13 ⟨some 31, .load 78 (.tmp 2), _, _, _, some (12, false)⟩ hS ?_
              refine tV 14 ⟨some 32, .fieldAddr 53 (.tmp 3) 0, _, _, _, some (12, false)⟩ hS ?_
              refine tL 15 ⟨some 33, .load 9 (.tmp 32), _, _, _, some (12, false)⟩ hS ?_
              refine wpAnyH_ready (rs := [16]) (by kernel_rfl) (by simp) ?_
              refine (AllReadyH.cons (o := ⟨some 34, .call { callee := .value (.func 64), args := #[.tmp 31, .tmp 33], argTypes := #[78, 9] }, _, _, _, some (12, false)⟩) rfl (fun K hK => ?_) AllReadyH.nil)
              (go_simp; refine (HAt.out _ _ sfx hE.drew).mono ?_; rintro e w3 ⟨v, rfl, rfl, hA1⟩)
              refine hK.out _ _ ⟨(atVm hA1 (by repeat (first | exact List.Mem.head _ | refine List.Mem.tail _ ?_)) (by simp [go_sem]) rfl), (atVm hA1 (by repeat (first | exact List.Mem.head _ | refine List.Mem.tail _ ?_)) (by simp [go_sem]) rfl), (atVm hA1 (by repeat (first | exact List.Mem.head _ | refine List.Mem.tail _ ?_)) (by simp [go_sem]) rfl), (atWm hA1 (by repeat (first | exact List.Mem.head _ | refine List.Mem.tail _ ?_)) Tryd.isAgg78 Tryd.sizeOf78 rfl)⟩ (fun hS => ?_)
              clear hK K
              try simp only [Act.put, sb, s0, sz]
              refine tV 17 ⟨some 35, .binOp .geq 3 (.tmp 34) (.const (.int .i64 0)) 3, _, _, _, some (12, false)⟩ hS ?_
              refine tV 18 ⟨some 36, .pick (.tmp 30) (.const (.bool true)) (.tmp 35), _, _, _, none⟩ hS ?_
              refine tV 19 ⟨some 37, .move (.tmp 36), _, _, _, none⟩ hS ?_
              refine tL 20 ⟨some 38, .load 78 (.tmp 2), _, _, _, some (19, false)⟩ hS ?_
              refine tV 21 ⟨some 39, .fieldAddr 53 (.tmp 3) 0, _, _, _, some (19, false)⟩ hS ?_
              refine tL 22 ⟨some 40, .load 9 (.tmp 39), _, _, _, some (19, false)⟩ hS ?_
              refine wpAnyH_ready (rs := [23]) (by kernel_rfl) (by simp) ?_
              refine (AllReadyH.cons (o := ⟨some 41, .call { callee := .value (.func 66), args := #[.tmp 40], argTypes := #[9] }, _, _, _, some (19, false)⟩) rfl (fun K hK => ?_) AllReadyH.nil)
              (go_simp; refine (HPa.out _ _ hA1).mono ?_; rintro e w4 ⟨v, rfl, rfl, hA2⟩)
              refine hK.out _ _ ⟨(atVm hA2 (by repeat (first | exact List.Mem.head _ | refine List.Mem.tail _ ?_)) (by simp [go_sem]) rfl), (atVm hA2 (by repeat (first | exact List.Mem.head _ | refine List.Mem.tail _ ?_)) (by simp [go_sem]) rfl), (atVm hA2 (by repeat (first | exact List.Mem.head _ | refine List.Mem.tail _ ?_)) (by simp [go_sem]) rfl), (atWm hA2 (by repeat (first | exact List.Mem.head _ | refine List.Mem.tail _ ?_)) Tryd.isAgg78 Tryd.sizeOf78 rfl)⟩ (fun hS => ?_)
              clear hK K
              try simp only [Act.put, sb, s0, sz]
              refine wpAnyH_ready (rs := [24]) (by kernel_rfl) (by simp) ?_
              refine (AllReadyH.cons (o := ⟨some 42, .call { callee := .value (.func 65), args := #[.tmp 38, .tmp 41], argTypes := #[78, 9] }, _, _, _, some (19, false)⟩) rfl (fun K hK => ?_) AllReadyH.nil)
              (go_simp; refine (HDi.out _ _ sfx hA2).mono ?_; rintro e w5 ⟨v, rfl, rfl, hA3⟩)
              refine hK.out _ _ ⟨(atVm hA3 (by repeat (first | exact List.Mem.head _ | refine List.Mem.tail _ ?_)) (by simp [go_sem]) rfl), (atVm hA3 (by repeat (first | exact List.Mem.head _ | refine List.Mem.tail _ ?_)) (by simp [go_sem]) rfl), (atVm hA3 (by repeat (first | exact List.Mem.head _ | refine List.Mem.tail _ ?_)) (by simp [go_sem]) rfl), (atWm hA3 (by repeat (first | exact List.Mem.head _ | refine List.Mem.tail _ ?_)) Tryd.isAgg78 Tryd.sizeOf78 rfl)⟩ (fun hS => ?_)
              clear hK K
              try simp only [Act.put, sb, s0, sz]
              refine tV 25 ⟨some 43, .unOp Go.UnOp.not 4 (.tmp 42), _, _, _, some (19, false)⟩ hS ?_
              refine tV 26 ⟨some 44, .pick (.tmp 37) (.const (.bool true)) (.tmp 43), _, _, _, none⟩ hS ?_
              refine wpAnyH_done (by kernel_rfl) ?_ _
              replace hE := hA3
              clear hS
              try clear hA1
              try clear hA2
              try clear hA3
              clear HE2
              go_wp2_with (first
                | go_skip
                | ((with_reducible (show Go.wpList _ _ _ (Go.Oper.mk _ (.load 78 _) _ _ _ _ :: _) _ _)); (first | (refine wpl_loadW hE 0 rfl rfl rfl rfl Tryd.isAgg78 Tryd.sizeOf78 rfl ?_) | (refine wpl_loadW hE 1 rfl rfl rfl rfl Tryd.isAgg78 Tryd.sizeOf78 rfl ?_) | (refine wpl_loadW hE 2 rfl rfl rfl rfl Tryd.isAgg78 Tryd.sizeOf78 rfl ?_) | (refine wpl_loadW hE 3 rfl rfl rfl rfl Tryd.isAgg78 Tryd.sizeOf78 rfl ?_) | (refine wpl_loadW hE 4 rfl rfl rfl rfl Tryd.isAgg78 Tryd.sizeOf78 rfl ?_) | (refine wpl_loadW hE 5 rfl rfl rfl rfl Tryd.isAgg78 Tryd.sizeOf78 rfl ?_) | (refine wpl_loadW hE 6 rfl rfl rfl rfl Tryd.isAgg78 Tryd.sizeOf78 rfl ?_) | (refine wpl_loadW hE 7 rfl rfl rfl rfl Tryd.isAgg78 Tryd.sizeOf78 rfl ?_)))
                | ((with_reducible (show Go.wpList _ _ _ (Go.Oper.mk _ (.store 78 _ _) _ _ _ _ :: _) _ _)); (first | (refine wpl_storeW hE 0 rfl rfl rfl (xs := [.slice ao L.length c]) rfl rfl Tryd.sizeOf78 rfl (by simp [Value.oneCell']) rfl ?_) | (refine wpl_storeW hE 1 rfl rfl rfl (xs := [.slice ao L.length c]) rfl rfl Tryd.sizeOf78 rfl (by simp [Value.oneCell']) rfl ?_) | (refine wpl_storeW hE 2 rfl rfl rfl (xs := [.slice ao L.length c]) rfl rfl Tryd.sizeOf78 rfl (by simp [Value.oneCell']) rfl ?_) | (refine wpl_storeW hE 3 rfl rfl rfl (xs := [.slice ao L.length c]) rfl rfl Tryd.sizeOf78 rfl (by simp [Value.oneCell']) rfl ?_) | (refine wpl_storeW hE 4 rfl rfl rfl (xs := [.slice ao L.length c]) rfl rfl Tryd.sizeOf78 rfl (by simp [Value.oneCell']) rfl ?_) | (refine wpl_storeW hE 5 rfl rfl rfl (xs := [.slice ao L.length c]) rfl rfl Tryd.sizeOf78 rfl (by simp [Value.oneCell']) rfl ?_) | (refine wpl_storeW hE 6 rfl rfl rfl (xs := [.slice ao L.length c]) rfl rfl Tryd.sizeOf78 rfl (by simp [Value.oneCell']) rfl ?_) | (refine wpl_storeW hE 7 rfl rfl rfl (xs := [.slice ao L.length c]) rfl rfl Tryd.sizeOf78 rfl (by simp [Value.oneCell']) rfl ?_)); clear hE; intro w hE; simp only [List.set_cons_zero, List.set_cons_succ] at hE))
              refine bodyPost_ret (results_cell2 rfl hE 0 rfl rfl Tryd.isAgg78 Tryd.sizeOf78 rfl rfl) rfl ?_
              exact ⟨_, rfl, AddPost.bad HB.out (m := [_, _, _]) hE⟩
            | true =>
              have HE3 := SL.hid (HE2.out.trans (if_neg (by have h1 : xp ≠ [] := (by simpa using hA); have h2 : xb = [] := (by simpa using hB); simp [h1, hC, h2])))
              clear HE2
              refine wp_region_held_drew (S := (fun w' => ((Instr.loadAt 9 (.pointer (some ⟨b3, 0, none⟩))).run Tryd.prog w' = .ok (.string ⟨xp.toArray⟩) w') ∧ ((Instr.loadAt 4 (.pointer (some ⟨b3, 1, none⟩))).run Tryd.prog w' = .ok (.bool true) w') ∧ ((Instr.loadAt 9 (.pointer (some ⟨b3, 2, none⟩))).run Tryd.prog w' = .ok (.string ⟨xb.toArray⟩) w') ∧ ((Instr.loadAt 78 (.pointer (some ⟨b2, 0, none⟩))).run Tryd.prog w' = .ok (.agg [.slice ao L.length c].toArray) w'))) (by kernel_rfl) ⟨(atVm hE.drew (by repeat (first | exact List.Mem.head _ | refine List.Mem.tail _ ?_)) (by simp [go_sem]) rfl), (atVm hE.drew (by repeat (first | exact List.Mem.head _ | refine List.Mem.tail _ ?_)) (by simp [go_sem]) rfl), (atVm hE.drew (by repeat (first | exact List.Mem.head _ | refine List.Mem.tail _ ?_)) (by simp [go_sem]) rfl), (atWm hE.drew (by repeat (first | exact List.Mem.head _ | refine List.Mem.tail _ ?_)) Tryd.isAgg78 Tryd.sizeOf78 rfl)⟩ (fun hS => ?_)
              refine tV 0 ⟨some 18, .fieldAddr 53 (.tmp 3) 0, _, _, _, none⟩ hS ?_
              refine tL 1 ⟨some 19, .load 9 (.tmp 18), _, _, _, none⟩ hS ?_
              refine tV 2 ⟨some 20, .binOp .eql 9 (.tmp 19) (.const (.string { data := #[] })) 9, _, _, _, none⟩ hS ?_
              refine tV 3 ⟨some 21, .move (.tmp 20), _, _, _, none⟩ hS ?_
              refine tV 4 ⟨some 22, .fieldAddr 53 (.tmp 3) 1, _, _, _, some (3, false)⟩ hS ?_
              refine tL 5 ⟨some 23, .load 4 (.tmp 22), _, _, _, some (3, false)⟩ hS ?_
              refine tV 6 ⟨some 24, .move (.tmp 23), _, _, _, some (3, false)⟩ hS ?_
              refine tV 7 ⟨some 25, .fieldAddr 53 (.tmp 3) 2, _, _, _, some (6, true)⟩ hS ?_
              refine tL 8 ⟨some 26, .load 9 (.tmp 25), _, _, _, some (6, true)⟩ hS ?_
              refine tV 9 ⟨some 27, .binOp .neq 9 (.tmp 26) (.const (.string { data := #[] })) 9, _, _, _, some (6, true)⟩ hS ?_
              refine tV 10 ⟨some 28, .pick (.tmp 24) (.tmp 27) (.const (.bool false)), _, _, _, some (3, false)⟩ hS ?_
              refine tV 11 ⟨some 29, .pick (.tmp 21) (.const (.bool true)) (.tmp 28), _, _, _, none⟩ hS ?_
              refine tV 12 ⟨some 30, .move (.tmp 29), _, _, _, none⟩ hS ?_
              refine tL 13 ⟨some 31, .load 78 (.tmp 2), _, _, _, some (12, false)⟩ hS ?_
              refine tV 14 ⟨some 32, .fieldAddr 53 (.tmp 3) 0, _, _, _, some (12, false)⟩ hS ?_
              refine tL 15 ⟨some 33, .load 9 (.tmp 32), _, _, _, some (12, false)⟩ hS ?_
              refine wpAnyH_ready (rs := [16]) (by kernel_rfl) (by simp) ?_
              refine (AllReadyH.cons (o := ⟨some 34, .call { callee := .value (.func 64), args := #[.tmp 31, .tmp 33], argTypes := #[78, 9] }, _, _, _, some (12, false)⟩) rfl (fun K hK => ?_) AllReadyH.nil)
              (go_simp; refine (HAt.out _ _ sfx hE.drew).mono ?_; rintro e w3 ⟨v, rfl, rfl, hA1⟩)
              refine hK.out _ _ ⟨(atVm hA1 (by repeat (first | exact List.Mem.head _ | refine List.Mem.tail _ ?_)) (by simp [go_sem]) rfl), (atVm hA1 (by repeat (first | exact List.Mem.head _ | refine List.Mem.tail _ ?_)) (by simp [go_sem]) rfl), (atVm hA1 (by repeat (first | exact List.Mem.head _ | refine List.Mem.tail _ ?_)) (by simp [go_sem]) rfl), (atWm hA1 (by repeat (first | exact List.Mem.head _ | refine List.Mem.tail _ ?_)) Tryd.isAgg78 Tryd.sizeOf78 rfl)⟩ (fun hS => ?_)
              clear hK K
              try simp only [Act.put, sb, s0, sz]
              refine tV 17 ⟨some 35, .binOp .geq 3 (.tmp 34) (.const (.int .i64 0)) 3, _, _, _, some (12, false)⟩ hS ?_
              refine tV 18 ⟨some 36, .pick (.tmp 30) (.const (.bool true)) (.tmp 35), _, _, _, none⟩ hS ?_
              refine tV 19 ⟨some 37, .move (.tmp 36), _, _, _, none⟩ hS ?_
              refine tL 20 ⟨some 38, .load 78 (.tmp 2), _, _, _, some (19, false)⟩ hS ?_
              refine tV 21 ⟨some 39, .fieldAddr 53 (.tmp 3) 0, _, _, _, some (19, false)⟩ hS ?_
              refine tL 22 ⟨some 40, .load 9 (.tmp 39), _, _, _, some (19, false)⟩ hS ?_
              refine wpAnyH_ready (rs := [23]) (by kernel_rfl) (by simp) ?_
              refine (AllReadyH.cons (o := ⟨some 41, .call { callee := .value (.func 66), args := #[.tmp 40], argTypes := #[9] }, _, _, _, some (19, false)⟩) rfl (fun K hK => ?_) AllReadyH.nil)
              (go_simp; refine (HPa.out _ _ hA1).mono ?_; rintro e w4 ⟨v, rfl, rfl, hA2⟩)
              refine hK.out _ _ ⟨(atVm hA2 (by repeat (first | exact List.Mem.head _ | refine List.Mem.tail _ ?_)) (by simp [go_sem]) rfl), (atVm hA2 (by repeat (first | exact List.Mem.head _ | refine List.Mem.tail _ ?_)) (by simp [go_sem]) rfl), (atVm hA2 (by repeat (first | exact List.Mem.head _ | refine List.Mem.tail _ ?_)) (by simp [go_sem]) rfl), (atWm hA2 (by repeat (first | exact List.Mem.head _ | refine List.Mem.tail _ ?_)) Tryd.isAgg78 Tryd.sizeOf78 rfl)⟩ (fun hS => ?_)
              clear hK K
              try simp only [Act.put, sb, s0, sz]
              refine wpAnyH_ready (rs := [24]) (by kernel_rfl) (by simp) ?_
              refine (AllReadyH.cons (o := ⟨some 42, .call { callee := .value (.func 65), args := #[.tmp 38, .tmp 41], argTypes := #[78, 9] }, _, _, _, some (19, false)⟩) rfl (fun K hK => ?_) AllReadyH.nil)
              (go_simp; refine (HDi.out _ _ sfx hA2).mono ?_; rintro e w5 ⟨v, rfl, rfl, hA3⟩)
              refine hK.out _ _ ⟨(atVm hA3 (by repeat (first | exact List.Mem.head _ | refine List.Mem.tail _ ?_)) (by simp [go_sem]) rfl), (atVm hA3 (by repeat (first | exact List.Mem.head _ | refine List.Mem.tail _ ?_)) (by simp [go_sem]) rfl), (atVm hA3 (by repeat (first | exact List.Mem.head _ | refine List.Mem.tail _ ?_)) (by simp [go_sem]) rfl), (atWm hA3 (by repeat (first | exact List.Mem.head _ | refine List.Mem.tail _ ?_)) Tryd.isAgg78 Tryd.sizeOf78 rfl)⟩ (fun hS => ?_)
              clear hK K
              try simp only [Act.put, sb, s0, sz]
              refine tV 25 ⟨some 43, .unOp Go.UnOp.not 4 (.tmp 42), _, _, _, some (19, false)⟩ hS ?_
              refine tV 26 ⟨some 44, .pick (.tmp 37) (.const (.bool true)) (.tmp 43), _, _, _, none⟩ hS ?_
              refine wpAnyH_done (by kernel_rfl) ?_ _
              replace hE := hA3
              clear hS
              try clear hA1
              try clear hA2
              try clear hA3
              cases hG : decide ((8192 : Int) < (xb.length : Int)) with
              | true =>
                have hG2 := of_decide_eq_true hG
                have HB := SL.hid (show addE L _ = 6 ∧ (6 : Int) ≠ 0 from ⟨HE3.out.trans (if_pos (.inl (by omega))), by decide⟩)
                try clear hG2
                try clear h62
                go_wp2
                refine wp_region_held_drew (S := (fun w' => ((Instr.loadAt 9 (.pointer (some ⟨b3, 0, none⟩))).run Tryd.prog w' = .ok (.string ⟨xp.toArray⟩) w') ∧ ((Instr.loadAt 9 (.pointer (some ⟨b3, 2, none⟩))).run Tryd.prog w' = .ok (.string ⟨xb.toArray⟩) w') ∧ ((Instr.loadAt 78 (.pointer (some ⟨b2, 0, none⟩))).run Tryd.prog w' = .ok (.agg [.slice ao L.length c].toArray) w'))) (by kernel_rfl) ⟨(atVm hE.drew (by repeat (first | exact List.Mem.head _ | refine List.Mem.tail _ ?_)) (by simp [go_sem]) rfl), (atVm hE.drew (by repeat (first | exact List.Mem.head _ | refine List.Mem.tail _ ?_)) (by simp [go_sem]) rfl), (atWm hE.drew (by repeat (first | exact List.Mem.head _ | refine List.Mem.tail _ ?_)) Tryd.isAgg78 Tryd.sizeOf78 rfl)⟩ (fun hS => ?_)
                refine tV 0 ⟨some 46, .fieldAddr 53 (.tmp 3) 2, _, _, _, none⟩ hS ?_
                refine tL 1 ⟨some 47, .load 9 (.tmp 46), _, _, _, none⟩ hS ?_
                refine tV 2 ⟨some 48, .call { callee := .builtin .len, args := #[.tmp 47], argTypes := #[9] }, _, _, _, none⟩ hS ?_
                refine tV 3 ⟨some 49, .binOp .gtr 3 (.tmp 48) (.const (.int .i64 8192)) 3, _, _, _, none⟩ hS ?_
                refine tV 4 ⟨some 50, .move (.tmp 49), _, _, _, none⟩ hS ?_
                refine tU 5 ⟨some 51, .load 78 (.tmp 2), _, _, _, some (4, false)⟩ hS ?_
                refine tU 6 ⟨some 52, .fieldAddr 53 (.tmp 3) 0, _, _, _, some (4, false)⟩ hS ?_
                refine tU 7 ⟨some 53, .load 9 (.tmp 52), _, _, _, some (4, false)⟩ hS ?_
                refine tU 8 ⟨some 54, .call { callee := .value (.func 66), args := #[.tmp 53], argTypes := #[9] }, _, _, _, some (4, false)⟩ hS ?_
                refine tU 9 ⟨some 55, .call { callee := .value (.func 67), args := #[.tmp 51, .tmp 54], argTypes := #[78, 9] }, _, _, _, some (4, false)⟩ hS ?_
                refine tU 10 ⟨some 56, .call { callee := .builtin .len, args := #[.tmp 55], argTypes := #[110] }, _, _, _, some (4, false)⟩ hS ?_
                refine tU 11 ⟨some 57, .binOp .geq 3 (.tmp 56) (.const (.int .i64 6)) 3, _, _, _, some (4, false)⟩ hS ?_
                refine tV 12 ⟨some 58, .pick (.tmp 50) (.const (.bool true)) (.tmp 57), _, _, _, none⟩ hS ?_
                refine wpAnyH_done (by kernel_rfl) ?_ _
                replace hE := hE.drew
                clear hS
                clear HE3
                go_wp2_with (first
                  | go_skip
                  | ((with_reducible (show Go.wpList _ _ _ (Go.Oper.mk _ (.load 78 _) _ _ _ _ :: _) _ _)); (first | (refine wpl_loadW hE 0 rfl rfl rfl rfl Tryd.isAgg78 Tryd.sizeOf78 rfl ?_) | (refine wpl_loadW hE 1 rfl rfl rfl rfl Tryd.isAgg78 Tryd.sizeOf78 rfl ?_) | (refine wpl_loadW hE 2 rfl rfl rfl rfl Tryd.isAgg78 Tryd.sizeOf78 rfl ?_) | (refine wpl_loadW hE 3 rfl rfl rfl rfl Tryd.isAgg78 Tryd.sizeOf78 rfl ?_) | (refine wpl_loadW hE 4 rfl rfl rfl rfl Tryd.isAgg78 Tryd.sizeOf78 rfl ?_) | (refine wpl_loadW hE 5 rfl rfl rfl rfl Tryd.isAgg78 Tryd.sizeOf78 rfl ?_) | (refine wpl_loadW hE 6 rfl rfl rfl rfl Tryd.isAgg78 Tryd.sizeOf78 rfl ?_) | (refine wpl_loadW hE 7 rfl rfl rfl rfl Tryd.isAgg78 Tryd.sizeOf78 rfl ?_)))
                  | ((with_reducible (show Go.wpList _ _ _ (Go.Oper.mk _ (.store 78 _ _) _ _ _ _ :: _) _ _)); (first | (refine wpl_storeW hE 0 rfl rfl rfl (xs := [.slice ao L.length c]) rfl rfl Tryd.sizeOf78 rfl (by simp [Value.oneCell']) rfl ?_) | (refine wpl_storeW hE 1 rfl rfl rfl (xs := [.slice ao L.length c]) rfl rfl Tryd.sizeOf78 rfl (by simp [Value.oneCell']) rfl ?_) | (refine wpl_storeW hE 2 rfl rfl rfl (xs := [.slice ao L.length c]) rfl rfl Tryd.sizeOf78 rfl (by simp [Value.oneCell']) rfl ?_) | (refine wpl_storeW hE 3 rfl rfl rfl (xs := [.slice ao L.length c]) rfl rfl Tryd.sizeOf78 rfl (by simp [Value.oneCell']) rfl ?_) | (refine wpl_storeW hE 4 rfl rfl rfl (xs := [.slice ao L.length c]) rfl rfl Tryd.sizeOf78 rfl (by simp [Value.oneCell']) rfl ?_) | (refine wpl_storeW hE 5 rfl rfl rfl (xs := [.slice ao L.length c]) rfl rfl Tryd.sizeOf78 rfl (by simp [Value.oneCell']) rfl ?_) | (refine wpl_storeW hE 6 rfl rfl rfl (xs := [.slice ao L.length c]) rfl rfl Tryd.sizeOf78 rfl (by simp [Value.oneCell']) rfl ?_) | (refine wpl_storeW hE 7 rfl rfl rfl (xs := [.slice ao L.length c]) rfl rfl Tryd.sizeOf78 rfl (by simp [Value.oneCell']) rfl ?_)); clear hE; intro w hE; simp only [List.set_cons_zero, List.set_cons_succ] at hE))
                refine bodyPost_ret (results_cell2 rfl hE 0 rfl rfl Tryd.isAgg78 Tryd.sizeOf78 rfl rfl) rfl ?_
                exact ⟨_, rfl, AddPost.bad HB.out (m := [_, _, _]) hE⟩
              | false =>
                have hG2 := of_decide_eq_false hG
                cases h6 : decide ((6 : Int) ≤ (ki.length : Int)) with
                | true =>
                  have h62 := of_decide_eq_true h6
                  have HB := SL.hid (show addE L _ = 6 ∧ (6 : Int) ≠ 0 from ⟨HE3.out.trans (if_pos (.inr (by omega))), by decide⟩)
                  try clear hG2
                  try clear h62
                  go_wp2
                  refine wp_region_held_drew (S := (fun w' => ((Instr.loadAt 9 (.pointer (some ⟨b3, 0, none⟩))).run Tryd.prog w' = .ok (.string ⟨xp.toArray⟩) w') ∧ ((Instr.loadAt 9 (.pointer (some ⟨b3, 2, none⟩))).run Tryd.prog w' = .ok (.string ⟨xb.toArray⟩) w') ∧ ((Instr.loadAt 78 (.pointer (some ⟨b2, 0, none⟩))).run Tryd.prog w' = .ok (.agg [.slice ao L.length c].toArray) w'))) (by kernel_rfl) ⟨(atVm hE.drew (by repeat (first | exact List.Mem.head _ | refine List.Mem.tail _ ?_)) (by simp [go_sem]) rfl), (atVm hE.drew (by repeat (first | exact List.Mem.head _ | refine List.Mem.tail _ ?_)) (by simp [go_sem]) rfl), (atWm hE.drew (by repeat (first | exact List.Mem.head _ | refine List.Mem.tail _ ?_)) Tryd.isAgg78 Tryd.sizeOf78 rfl)⟩ (fun hS => ?_)
                  refine tV 0 ⟨some 46, .fieldAddr 53 (.tmp 3) 2, _, _, _, none⟩ hS ?_
                  refine tL 1 ⟨some 47, .load 9 (.tmp 46), _, _, _, none⟩ hS ?_
                  refine tV 2 ⟨some 48, .call { callee := .builtin .len, args := #[.tmp 47], argTypes := #[9] }, _, _, _, none⟩ hS ?_
                  refine tV 3 ⟨some 49, .binOp .gtr 3 (.tmp 48) (.const (.int .i64 8192)) 3, _, _, _, none⟩ hS ?_
                  refine tV 4 ⟨some 50, .move (.tmp 49), _, _, _, none⟩ hS ?_
                  refine tL 5 ⟨some 51, .load 78 (.tmp 2), _, _, _, some (4, false)⟩ hS ?_
                  refine tV 6 ⟨some 52, .fieldAddr 53 (.tmp 3) 0, _, _, _, some (4, false)⟩ hS ?_
                  refine tL 7 ⟨some 53, .load 9 (.tmp 52), _, _, _, some (4, false)⟩ hS ?_
                  refine wpAnyH_ready (rs := [8]) (by kernel_rfl) (by simp) ?_
                  refine (AllReadyH.cons (o := ⟨some 54, .call { callee := .value (.func 66), args := #[.tmp 53], argTypes := #[9] }, _, _, _, some (4, false)⟩) rfl (fun K hK => ?_) AllReadyH.nil)
                  (go_simp; refine (HPa.out _ _ hE.drew).mono ?_; rintro e w4 ⟨v, rfl, rfl, hA1⟩)
                  refine hK.out _ _ ⟨(atVm hA1 (by repeat (first | exact List.Mem.head _ | refine List.Mem.tail _ ?_)) (by simp [go_sem]) rfl), (atVm hA1 (by repeat (first | exact List.Mem.head _ | refine List.Mem.tail _ ?_)) (by simp [go_sem]) rfl), (atWm hA1 (by repeat (first | exact List.Mem.head _ | refine List.Mem.tail _ ?_)) Tryd.isAgg78 Tryd.sizeOf78 rfl)⟩ (fun hS => ?_)
                  clear hK K
                  try simp only [Act.put, sb, s0, sz]
                  refine wpAnyH_ready (rs := [9]) (by kernel_rfl) (by simp) ?_
                  refine (AllReadyH.cons (o := ⟨some 55, .call { callee := .value (.func 67), args := #[.tmp 51, .tmp 54], argTypes := #[78, 9] }, _, _, _, some (4, false)⟩) rfl (fun K hK => ?_) AllReadyH.nil)
                  (go_simp; refine (HKi.out _ _ sfx hA1).mono ?_; rintro e w5 ⟨v, rfl, ka, kc, rfl, hA2⟩)
                  refine hK.out _ _ ⟨(atVm hA2 (by repeat (first | exact List.Mem.head _ | refine List.Mem.tail _ ?_)) (by simp [go_sem]) rfl), (atVm hA2 (by repeat (first | exact List.Mem.head _ | refine List.Mem.tail _ ?_)) (by simp [go_sem]) rfl), (atWm hA2 (by repeat (first | exact List.Mem.head _ | refine List.Mem.tail _ ?_)) Tryd.isAgg78 Tryd.sizeOf78 rfl)⟩ (fun hS => ?_)
                  clear hK K
                  try simp only [Act.put, sb, s0, sz]
                  refine tV 10 ⟨some 56, .call { callee := .builtin .len, args := #[.tmp 55], argTypes := #[110] }, _, _, _, some (4, false)⟩ hS ?_
                  refine tV 11 ⟨some 57, .binOp .geq 3 (.tmp 56) (.const (.int .i64 6)) 3, _, _, _, some (4, false)⟩ hS ?_
                  refine tV 12 ⟨some 58, .pick (.tmp 50) (.const (.bool true)) (.tmp 57), _, _, _, none⟩ hS ?_
                  refine wpAnyH_done (by kernel_rfl) ?_ _
                  replace hE := hA2.tail
                  clear hS
                  try clear hA1
                  try clear hA2
                  try clear hA3
                  clear HE3
                  go_wp2_with (first
                    | go_skip
                    | ((with_reducible (show Go.wpList _ _ _ (Go.Oper.mk _ (.load 78 _) _ _ _ _ :: _) _ _)); (first | (refine wpl_loadW hE 0 rfl rfl rfl rfl Tryd.isAgg78 Tryd.sizeOf78 rfl ?_) | (refine wpl_loadW hE 1 rfl rfl rfl rfl Tryd.isAgg78 Tryd.sizeOf78 rfl ?_) | (refine wpl_loadW hE 2 rfl rfl rfl rfl Tryd.isAgg78 Tryd.sizeOf78 rfl ?_) | (refine wpl_loadW hE 3 rfl rfl rfl rfl Tryd.isAgg78 Tryd.sizeOf78 rfl ?_) | (refine wpl_loadW hE 4 rfl rfl rfl rfl Tryd.isAgg78 Tryd.sizeOf78 rfl ?_) | (refine wpl_loadW hE 5 rfl rfl rfl rfl Tryd.isAgg78 Tryd.sizeOf78 rfl ?_) | (refine wpl_loadW hE 6 rfl rfl rfl rfl Tryd.isAgg78 Tryd.sizeOf78 rfl ?_) | (refine wpl_loadW hE 7 rfl rfl rfl rfl Tryd.isAgg78 Tryd.sizeOf78 rfl ?_)))
                    | ((with_reducible (show Go.wpList _ _ _ (Go.Oper.mk _ (.store 78 _ _) _ _ _ _ :: _) _ _)); (first | (refine wpl_storeW hE 0 rfl rfl rfl (xs := [.slice ao L.length c]) rfl rfl Tryd.sizeOf78 rfl (by simp [Value.oneCell']) rfl ?_) | (refine wpl_storeW hE 1 rfl rfl rfl (xs := [.slice ao L.length c]) rfl rfl Tryd.sizeOf78 rfl (by simp [Value.oneCell']) rfl ?_) | (refine wpl_storeW hE 2 rfl rfl rfl (xs := [.slice ao L.length c]) rfl rfl Tryd.sizeOf78 rfl (by simp [Value.oneCell']) rfl ?_) | (refine wpl_storeW hE 3 rfl rfl rfl (xs := [.slice ao L.length c]) rfl rfl Tryd.sizeOf78 rfl (by simp [Value.oneCell']) rfl ?_) | (refine wpl_storeW hE 4 rfl rfl rfl (xs := [.slice ao L.length c]) rfl rfl Tryd.sizeOf78 rfl (by simp [Value.oneCell']) rfl ?_) | (refine wpl_storeW hE 5 rfl rfl rfl (xs := [.slice ao L.length c]) rfl rfl Tryd.sizeOf78 rfl (by simp [Value.oneCell']) rfl ?_) | (refine wpl_storeW hE 6 rfl rfl rfl (xs := [.slice ao L.length c]) rfl rfl Tryd.sizeOf78 rfl (by simp [Value.oneCell']) rfl ?_) | (refine wpl_storeW hE 7 rfl rfl rfl (xs := [.slice ao L.length c]) rfl rfl Tryd.sizeOf78 rfl (by simp [Value.oneCell']) rfl ?_)); clear hE; intro w hE; simp only [List.set_cons_zero, List.set_cons_succ] at hE))
                  refine bodyPost_ret (results_cell2 rfl hE 0 rfl rfl Tryd.isAgg78 Tryd.sizeOf78 rfl rfl) rfl ?_
                  exact ⟨_, rfl, AddPost.bad HB.out (m := [_, _, _]) hE⟩
                | false =>
                  have h62 := of_decide_eq_false h6
                  have HB := SL.hid (show addE L _ = 0 from HE3.out.trans (if_neg (by omega)))
                  try clear hG2
                  try clear h62
                  go_wp2
                  refine wp_region_held_drew (S := (fun w' => ((Instr.loadAt 9 (.pointer (some ⟨b3, 0, none⟩))).run Tryd.prog w' = .ok (.string ⟨xp.toArray⟩) w') ∧ ((Instr.loadAt 9 (.pointer (some ⟨b3, 2, none⟩))).run Tryd.prog w' = .ok (.string ⟨xb.toArray⟩) w') ∧ ((Instr.loadAt 78 (.pointer (some ⟨b2, 0, none⟩))).run Tryd.prog w' = .ok (.agg [.slice ao L.length c].toArray) w'))) (by kernel_rfl) ⟨(atVm hE.drew (by repeat (first | exact List.Mem.head _ | refine List.Mem.tail _ ?_)) (by simp [go_sem]) rfl), (atVm hE.drew (by repeat (first | exact List.Mem.head _ | refine List.Mem.tail _ ?_)) (by simp [go_sem]) rfl), (atWm hE.drew (by repeat (first | exact List.Mem.head _ | refine List.Mem.tail _ ?_)) Tryd.isAgg78 Tryd.sizeOf78 rfl)⟩ (fun hS => ?_)
                  refine tV 0 ⟨some 46, .fieldAddr 53 (.tmp 3) 2, _, _, _, none⟩ hS ?_
                  refine tL 1 ⟨some 47, .load 9 (.tmp 46), _, _, _, none⟩ hS ?_
                  refine tV 2 ⟨some 48, .call { callee := .builtin .len, args := #[.tmp 47], argTypes := #[9] }, _, _, _, none⟩ hS ?_
                  refine tV 3 ⟨some 49, .binOp .gtr 3 (.tmp 48) (.const (.int .i64 8192)) 3, _, _, _, none⟩ hS ?_
                  refine tV 4 ⟨some 50, .move (.tmp 49), _, _, _, none⟩ hS ?_
                  refine tL 5 ⟨some 51, .load 78 (.tmp 2), _, _, _, some (4, false)⟩ hS ?_
                  refine tV 6 ⟨some 52, .fieldAddr 53 (.tmp 3) 0, _, _, _, some (4, false)⟩ hS ?_
                  refine tL 7 ⟨some 53, .load 9 (.tmp 52), _, _, _, some (4, false)⟩ hS ?_
                  refine wpAnyH_ready (rs := [8]) (by kernel_rfl) (by simp) ?_
                  refine (AllReadyH.cons (o := ⟨some 54, .call { callee := .value (.func 66), args := #[.tmp 53], argTypes := #[9] }, _, _, _, some (4, false)⟩) rfl (fun K hK => ?_) AllReadyH.nil)
                  (go_simp; refine (HPa.out _ _ hE.drew).mono ?_; rintro e w4 ⟨v, rfl, rfl, hA1⟩)
                  refine hK.out _ _ ⟨(atVm hA1 (by repeat (first | exact List.Mem.head _ | refine List.Mem.tail _ ?_)) (by simp [go_sem]) rfl), (atVm hA1 (by repeat (first | exact List.Mem.head _ | refine List.Mem.tail _ ?_)) (by simp [go_sem]) rfl), (atWm hA1 (by repeat (first | exact List.Mem.head _ | refine List.Mem.tail _ ?_)) Tryd.isAgg78 Tryd.sizeOf78 rfl)⟩ (fun hS => ?_)
                  clear hK K
                  try simp only [Act.put, sb, s0, sz]
                  refine wpAnyH_ready (rs := [9]) (by kernel_rfl) (by simp) ?_
                  refine (AllReadyH.cons (o := ⟨some 55, .call { callee := .value (.func 67), args := #[.tmp 51, .tmp 54], argTypes := #[78, 9] }, _, _, _, some (4, false)⟩) rfl (fun K hK => ?_) AllReadyH.nil)
                  (go_simp; refine (HKi.out _ _ sfx hA1).mono ?_; rintro e w5 ⟨v, rfl, ka, kc, rfl, hA2⟩)
                  refine hK.out _ _ ⟨(atVm hA2 (by repeat (first | exact List.Mem.head _ | refine List.Mem.tail _ ?_)) (by simp [go_sem]) rfl), (atVm hA2 (by repeat (first | exact List.Mem.head _ | refine List.Mem.tail _ ?_)) (by simp [go_sem]) rfl), (atWm hA2 (by repeat (first | exact List.Mem.head _ | refine List.Mem.tail _ ?_)) Tryd.isAgg78 Tryd.sizeOf78 rfl)⟩ (fun hS => ?_)
                  clear hK K
                  try simp only [Act.put, sb, s0, sz]
                  refine tV 10 ⟨some 56, .call { callee := .builtin .len, args := #[.tmp 55], argTypes := #[110] }, _, _, _, some (4, false)⟩ hS ?_
                  refine tV 11 ⟨some 57, .binOp .geq 3 (.tmp 56) (.const (.int .i64 6)) 3, _, _, _, some (4, false)⟩ hS ?_
                  refine tV 12 ⟨some 58, .pick (.tmp 50) (.const (.bool true)) (.tmp 57), _, _, _, none⟩ hS ?_
                  refine wpAnyH_done (by kernel_rfl) ?_ _
                  replace hE := hA2.tail
                  clear hS
                  try clear hA1
                  try clear hA2
                  try clear hA3
                  clear HE3
                  go_wp2
                  refine wp_region_held_drew (S := (fun w' => ((Instr.loadAt 22 (.pointer (some ⟨b2, 0, none⟩))).run Tryd.prog w' = .ok (.slice ao L.length c) w') ∧ ((Instr.loadAt 53 (.pointer (some ⟨b3, 0, none⟩))).run Tryd.prog w' = .ok (.agg [.string ⟨xp.toArray⟩, .bool true, .string ⟨xb.toArray⟩].toArray) w'))) (by kernel_rfl) ⟨(atVm hE.drew (by repeat (first | exact List.Mem.head _ | refine List.Mem.tail _ ?_)) (by simp [go_sem]) rfl), (atWm hE.drew (by repeat (first | exact List.Mem.head _ | refine List.Mem.tail _ ?_)) Tryd.isAgg53 Tryd.sizeOf53 rfl)⟩ (fun hS => ?_)
                  refine tV 0 ⟨some 60, .fieldAddr 78 (.tmp 2) 0, _, _, _, none⟩ hS ?_
                  refine tL 1 ⟨some 61, .load 22 (.tmp 60), _, _, _, none⟩ hS ?_
                  refine tL 3 ⟨some 63, .load 53 (.tmp 3), _, _, _, none⟩ hS ?_
                  refine wpAnyH_ready (rs := [2, 4]) (by kernel_rfl) (by simp) ?_
                  refine (AllReadyH.cons (o := ⟨some 62, .call { callee := .builtin .append, args := #[.const (.slice none 0 0), .tmp 61], argTypes := #[22, 22] }, _, _, _, none⟩) rfl (fun K hK => ?_) (AllReadyH.cons (o := ⟨some 64, .buildSlice 22 1 #[(0, .tmp 63)], _, _, _, none⟩) rfl (fun K hK => ?_) AllReadyH.nil))
                  focus
                    ((first | refine step_appendNil hB rfl (by rfl) (by rfl) (by rfl) Tryd.underlying22 info_en (by decide) (hk _ (hB.suf sfx)) (enC_flat_len L) (flat_one L) (by omega) (by omega) ?_ | refine step_appendNil hE.drew rfl (by rfl) (by rfl) (by rfl) Tryd.underlying22 info_en (by decide) (hk _ (hE.drew.suf sfx)) (enC_flat_len L) (flat_one L) (by omega) (by omega) ?_); intro a1 c1 w6 hA)
                    refine hK.out _ _ ⟨(atVm hA (by repeat (first | exact List.Mem.head _ | refine List.Mem.tail _ ?_)) (by simp [go_sem]) rfl), (atWm hA (by repeat (first | exact List.Mem.head _ | refine List.Mem.tail _ ?_)) Tryd.isAgg53 Tryd.sizeOf53 rfl)⟩ (fun hS => ?_)
                    clear hK K
                    try simp only [Act.put, sb, s0, sz]
                    refine wpAnyH_ready (rs := [4]) (by kernel_rfl) (by simp) ?_
                    refine (AllReadyH.cons (o := ⟨some 64, .buildSlice 22 1 #[(0, .tmp 63)], _, _, _, none⟩) rfl (fun K hK => ?_) AllReadyH.nil)
                    ((first | refine step_build1 hA rfl (by rfl) (xs := enC ⟨xp, true, xb⟩) (by rfl) Tryd.underlying22 zs_en Tryd.sizeOf53 (by decide) (by decide) rfl ?_ | refine step_build1 hE.drew rfl (by rfl) (xs := enC ⟨xp, true, xb⟩) (by rfl) Tryd.underlying22 zs_en Tryd.sizeOf53 (by decide) (by decide) rfl ?_); intro b9 w7 hB)
                    refine hK.out _ _ ⟨(atVm hB (by repeat (first | exact List.Mem.head _ | refine List.Mem.tail _ ?_)) (by simp [go_sem]) rfl), (atWm hB (by repeat (first | exact List.Mem.head _ | refine List.Mem.tail _ ?_)) Tryd.isAgg53 Tryd.sizeOf53 rfl)⟩ (fun hS => ?_)
                    clear hK K
                    try simp only [Act.put, sb, s0, sz]
                    refine wpAnyH_ready (rs := [5]) (by kernel_rfl) (by simp) ?_
                    refine (AllReadyH.cons (o := ⟨some 65, .call { callee := .builtin .append, args := #[.tmp 62, .tmp 64], argTypes := #[22, 22] }, _, _, _, none⟩) rfl (fun K hK => ?_) AllReadyH.nil)
                    ((first | refine step_appendG hB 1 rfl rfl (by rfl) (by rfl) (by rfl) Tryd.underlying22 info_en (by decide) (m := 1) (news := enC ⟨xp, true, xb⟩) (reads_pt hB 0 rfl (off := 0) (fun j u hu => by rw [Nat.zero_add, List.getElem?_toArray]; exact hu)) rfl (enC_one _) (by omega) (by omega) ?_ | refine step_appendG hA 0 rfl rfl (by rfl) (by rfl) (by rfl) Tryd.underlying22 info_en (by decide) (m := 1) (news := enC ⟨xp, true, xb⟩) (reads_pt hA 1 rfl (off := 0) (fun j u hu => by rw [Nat.zero_add, List.getElem?_toArray]; exact hu)) rfl (enC_one _) (by omega) (by omega) ?_); intro a2 c2 w8 hC; simp only [List.set_cons_zero, List.set_cons_succ] at hC)
                    refine hK.out _ _ ⟨(atVm hC (by repeat (first | exact List.Mem.head _ | refine List.Mem.tail _ ?_)) (by simp [go_sem]) rfl), (atWm hC (by repeat (first | exact List.Mem.head _ | refine List.Mem.tail _ ?_)) Tryd.isAgg53 Tryd.sizeOf53 rfl)⟩ (fun hS => ?_)
                    clear hK K
                    try simp only [Act.put, sb, s0, sz]
                    refine tV 6 ⟨some 66, .build 78 #[(0, .tmp 65)], _, _, _, none⟩ hS ?_
                    refine wpAnyH_ready (rs := [7]) (by kernel_rfl) (by simp) ?_
                    refine (AllReadyH.cons (o := ⟨none, .store 78 (.tmp 4) (.tmp 66), _, _, _, none⟩) rfl (fun K hK => ?_) AllReadyH.nil)
                    (refine step_storeW hC 2 rfl (by rfl) (by rfl) (by rfl) (xs := [.slice a2 (L.length + 1) c2]) (by rfl) Tryd.sizeOf78 rfl (by simp [Value.oneCell']) rfl ?_; intro w9 hD; simp only [List.set_cons_zero, List.set_cons_succ] at hD)
                    refine hK.out _ _ ⟨(atVm hD (by repeat (first | exact List.Mem.head _ | refine List.Mem.tail _ ?_)) (by simp [go_sem]) rfl), (atWm hD (by repeat (first | exact List.Mem.head _ | refine List.Mem.tail _ ?_)) Tryd.isAgg53 Tryd.sizeOf53 rfl)⟩ (fun hS => ?_)
                    clear hK K
                    try simp only [Act.put, sb, s0, sz]
                    refine tV 8 ⟨some 5, .assign (.const (.int .i64 0)), _, _, _, none⟩ hS ?_
                    refine wpAnyH_done (by kernel_rfl) ?_ _
                  rotate_right
                  focus
                    ((first | refine step_build1 hA rfl (by rfl) (xs := enC ⟨xp, true, xb⟩) (by rfl) Tryd.underlying22 zs_en Tryd.sizeOf53 (by decide) (by decide) rfl ?_ | refine step_build1 hE.drew rfl (by rfl) (xs := enC ⟨xp, true, xb⟩) (by rfl) Tryd.underlying22 zs_en Tryd.sizeOf53 (by decide) (by decide) rfl ?_); intro b9 w7 hB)
                    refine hK.out _ _ ⟨(atVm hB (by repeat (first | exact List.Mem.head _ | refine List.Mem.tail _ ?_)) (by simp [go_sem]) rfl), (atWm hB (by repeat (first | exact List.Mem.head _ | refine List.Mem.tail _ ?_)) Tryd.isAgg53 Tryd.sizeOf53 rfl)⟩ (fun hS => ?_)
                    clear hK K
                    try simp only [Act.put, sb, s0, sz]
                    refine wpAnyH_ready (rs := [2]) (by kernel_rfl) (by simp) ?_
                    refine (AllReadyH.cons (o := ⟨some 62, .call { callee := .builtin .append, args := #[.const (.slice none 0 0), .tmp 61], argTypes := #[22, 22] }, _, _, _, none⟩) rfl (fun K hK => ?_) AllReadyH.nil)
                    ((first | refine step_appendNil hB rfl (by rfl) (by rfl) (by rfl) Tryd.underlying22 info_en (by decide) (hk _ (hB.suf sfx)) (enC_flat_len L) (flat_one L) (by omega) (by omega) ?_ | refine step_appendNil hE.drew rfl (by rfl) (by rfl) (by rfl) Tryd.underlying22 info_en (by decide) (hk _ (hE.drew.suf sfx)) (enC_flat_len L) (flat_one L) (by omega) (by omega) ?_); intro a1 c1 w6 hA)
                    refine hK.out _ _ ⟨(atVm hA (by repeat (first | exact List.Mem.head _ | refine List.Mem.tail _ ?_)) (by simp [go_sem]) rfl), (atWm hA (by repeat (first | exact List.Mem.head _ | refine List.Mem.tail _ ?_)) Tryd.isAgg53 Tryd.sizeOf53 rfl)⟩ (fun hS => ?_)
                    clear hK K
                    try simp only [Act.put, sb, s0, sz]
                    refine wpAnyH_ready (rs := [5]) (by kernel_rfl) (by simp) ?_
                    refine (AllReadyH.cons (o := ⟨some 65, .call { callee := .builtin .append, args := #[.tmp 62, .tmp 64], argTypes := #[22, 22] }, _, _, _, none⟩) rfl (fun K hK => ?_) AllReadyH.nil)
                    ((first | refine step_appendG hB 1 rfl rfl (by rfl) (by rfl) (by rfl) Tryd.underlying22 info_en (by decide) (m := 1) (news := enC ⟨xp, true, xb⟩) (reads_pt hB 0 rfl (off := 0) (fun j u hu => by rw [Nat.zero_add, List.getElem?_toArray]; exact hu)) rfl (enC_one _) (by omega) (by omega) ?_ | refine step_appendG hA 0 rfl rfl (by rfl) (by rfl) (by rfl) Tryd.underlying22 info_en (by decide) (m := 1) (news := enC ⟨xp, true, xb⟩) (reads_pt hA 1 rfl (off := 0) (fun j u hu => by rw [Nat.zero_add, List.getElem?_toArray]; exact hu)) rfl (enC_one _) (by omega) (by omega) ?_); intro a2 c2 w8 hC; simp only [List.set_cons_zero, List.set_cons_succ] at hC)
                    refine hK.out _ _ ⟨(atVm hC (by repeat (first | exact List.Mem.head _ | refine List.Mem.tail _ ?_)) (by simp [go_sem]) rfl), (atWm hC (by repeat (first | exact List.Mem.head _ | refine List.Mem.tail _ ?_)) Tryd.isAgg53 Tryd.sizeOf53 rfl)⟩ (fun hS => ?_)
                    clear hK K
                    try simp only [Act.put, sb, s0, sz]
                    refine tV 6 ⟨some 66, .build 78 #[(0, .tmp 65)], _, _, _, none⟩ hS ?_
                    refine wpAnyH_ready (rs := [7]) (by kernel_rfl) (by simp) ?_
                    refine (AllReadyH.cons (o := ⟨none, .store 78 (.tmp 4) (.tmp 66), _, _, _, none⟩) rfl (fun K hK => ?_) AllReadyH.nil)
                    (refine step_storeW hC 2 rfl (by rfl) (by rfl) (by rfl) (xs := [.slice a2 (L.length + 1) c2]) (by rfl) Tryd.sizeOf78 rfl (by simp [Value.oneCell']) rfl ?_; intro w9 hD; simp only [List.set_cons_zero, List.set_cons_succ] at hD)
                    refine hK.out _ _ ⟨(atVm hD (by repeat (first | exact List.Mem.head _ | refine List.Mem.tail _ ?_)) (by simp [go_sem]) rfl), (atWm hD (by repeat (first | exact List.Mem.head _ | refine List.Mem.tail _ ?_)) Tryd.isAgg53 Tryd.sizeOf53 rfl)⟩ (fun hS => ?_)
                    clear hK K
                    try simp only [Act.put, sb, s0, sz]
                    refine tV 8 ⟨some 5, .assign (.const (.int .i64 0)), _, _, _, none⟩ hS ?_
                    refine wpAnyH_done (by kernel_rfl) ?_ _
                  all_goals
                    clear hC hB hA hE hS
                    go_wp2
                    refine bodyPost_ret (results_cell2 rfl hD 2 rfl rfl Tryd.isAgg78 Tryd.sizeOf78 rfl rfl) rfl ?_
                    exact ⟨_, rfl, AddPost.good HB.out (m := [_, _, _, _, _]) (fun lk w h => by first | exact reads_row h 0 rfl | exact reads_row h 1 rfl) hD⟩
      | false =>
        by_cases hC : 0 ≤ ai
        · skip
          have HB := SL.hid (show addE L _ = 8 ∧ (8 : Int) ≠ 0 from ⟨HE2.out.trans (if_pos (.inr (.inr (.inl (by simp [hC]))))), by decide⟩)
          refine wp_region_held_drew (S := (fun w' => ((Instr.loadAt 9 (.pointer (some ⟨b3, 0, none⟩))).run Tryd.prog w' = .ok (.string ⟨xp.toArray⟩) w') ∧ ((Instr.loadAt 4 (.pointer (some ⟨b3, 1, none⟩))).run Tryd.prog w' = .ok (.bool false) w') ∧ ((Instr.loadAt 9 (.pointer (some ⟨b3, 2, none⟩))).run Tryd.prog w' = .ok (.string ⟨xb.toArray⟩) w') ∧ ((Instr.loadAt 78 (.pointer (some ⟨b2, 0, none⟩))).run Tryd.prog w' = .ok (.agg [.slice ao L.length c].toArray) w'))) (by kernel_rfl) ⟨(atVm hE.drew (by repeat (first | exact List.Mem.head _ | refine List.Mem.tail _ ?_)) (by simp [go_sem]) rfl), (atVm hE.drew (by repeat (first | exact List.Mem.head _ | refine List.Mem.tail _ ?_)) (by simp [go_sem]) rfl), (atVm hE.drew (by repeat (first | exact List.Mem.head _ | refine List.Mem.tail _ ?_)) (by simp [go_sem]) rfl), (atWm hE.drew (by repeat (first | exact List.Mem.head _ | refine List.Mem.tail _ ?_)) Tryd.isAgg78 Tryd.sizeOf78 rfl)⟩ (fun hS => ?_)
          refine tV 0 ⟨some 18, .fieldAddr 53 (.tmp 3) 0, _, _, _, none⟩ hS ?_
          refine tL 1 ⟨some 19, .load 9 (.tmp 18), _, _, _, none⟩ hS ?_
          refine tV 2 ⟨some 20, .binOp .eql 9 (.tmp 19) (.const (.string { data := #[] })) 9, _, _, _, none⟩ hS ?_
          refine tV 3 ⟨some 21, .move (.tmp 20), _, _, _, none⟩ hS ?_
          refine tV 4 ⟨some 22, .fieldAddr 53 (.tmp 3) 1, _, _, _, some (3, false)⟩ hS ?_
          refine tL 5 ⟨some 23, .load 4 (.tmp 22), _, _, _, some (3, false)⟩ hS ?_
          refine tV 6 ⟨some 24, .move (.tmp 23), _, _, _, some (3, false)⟩ hS ?_
          refine tU 7 ⟨some 25, .fieldAddr 53 (.tmp 3) 2, _, _, _, some (6, true)⟩ hS ?_
          refine tU 8 ⟨some 26, .load 9 (.tmp 25), _, _, _, some (6, true)⟩ hS ?_
          refine tU 9 ⟨some 27, .binOp .neq 9 (.tmp 26) (.const (.string { data := #[] })) 9, _, _, _, some (6, true)⟩ hS ?_
          refine tV 10 ⟨some 28, .pick (.tmp 24) (.tmp 27) (.const (.bool false)), _, _, _, some (3, false)⟩ hS ?_
          refine tV 11 ⟨some 29, .pick (.tmp 21) (.const (.bool true)) (.tmp 28), _, _, _, none⟩ hS ?_
          refine tV 12 ⟨some 30, .move (.tmp 29), _, _, _, none⟩ hS ?_
          refine tL 13 ⟨some 31, .load 78 (.tmp 2), _, _, _, some (12, false)⟩ hS ?_
          refine tV 14 ⟨some 32, .fieldAddr 53 (.tmp 3) 0, _, _, _, some (12, false)⟩ hS ?_
          refine tL 15 ⟨some 33, .load 9 (.tmp 32), _, _, _, some (12, false)⟩ hS ?_
          refine wpAnyH_ready (rs := [16]) (by kernel_rfl) (by simp) ?_
          refine (AllReadyH.cons (o := ⟨some 34, .call { callee := .value (.func 64), args := #[.tmp 31, .tmp 33], argTypes := #[78, 9] }, _, _, _, some (12, false)⟩) rfl (fun K hK => ?_) AllReadyH.nil)
          (go_simp; refine (HAt.out _ _ sfx hE.drew).mono ?_; rintro e w3 ⟨v, rfl, rfl, hA1⟩)
          refine hK.out _ _ ⟨(atVm hA1 (by repeat (first | exact List.Mem.head _ | refine List.Mem.tail _ ?_)) (by simp [go_sem]) rfl), (atVm hA1 (by repeat (first | exact List.Mem.head _ | refine List.Mem.tail _ ?_)) (by simp [go_sem]) rfl), (atVm hA1 (by repeat (first | exact List.Mem.head _ | refine List.Mem.tail _ ?_)) (by simp [go_sem]) rfl), (atWm hA1 (by repeat (first | exact List.Mem.head _ | refine List.Mem.tail _ ?_)) Tryd.isAgg78 Tryd.sizeOf78 rfl)⟩ (fun hS => ?_)
          clear hK K
          try simp only [Act.put, sb, s0, sz]
          refine tV 17 ⟨some 35, .binOp .geq 3 (.tmp 34) (.const (.int .i64 0)) 3, _, _, _, some (12, false)⟩ hS ?_
          refine tV 18 ⟨some 36, .pick (.tmp 30) (.const (.bool true)) (.tmp 35), _, _, _, none⟩ hS ?_
          refine tV 19 ⟨some 37, .move (.tmp 36), _, _, _, none⟩ hS ?_
          refine tU 20 ⟨some 38, .load 78 (.tmp 2), _, _, _, some (19, false)⟩ hS ?_
          refine tU 21 ⟨some 39, .fieldAddr 53 (.tmp 3) 0, _, _, _, some (19, false)⟩ hS ?_
          refine tU 22 ⟨some 40, .load 9 (.tmp 39), _, _, _, some (19, false)⟩ hS ?_
          refine tU 23 ⟨some 41, .call { callee := .value (.func 66), args := #[.tmp 40], argTypes := #[9] }, _, _, _, some (19, false)⟩ hS ?_
          refine tU 24 ⟨some 42, .call { callee := .value (.func 65), args := #[.tmp 38, .tmp 41], argTypes := #[78, 9] }, _, _, _, some (19, false)⟩ hS ?_
          refine tU 25 ⟨some 43, .unOp Go.UnOp.not 4 (.tmp 42), _, _, _, some (19, false)⟩ hS ?_
          refine tV 26 ⟨some 44, .pick (.tmp 37) (.const (.bool true)) (.tmp 43), _, _, _, none⟩ hS ?_
          refine wpAnyH_done (by kernel_rfl) ?_ _
          replace hE := hA1
          clear hS
          try clear hA1
          try clear hA2
          try clear hA3
          clear HE2
          go_wp2_with (first
            | go_skip
            | ((with_reducible (show Go.wpList _ _ _ (Go.Oper.mk _ (.load 78 _) _ _ _ _ :: _) _ _)); (first | (refine wpl_loadW hE 0 rfl rfl rfl rfl Tryd.isAgg78 Tryd.sizeOf78 rfl ?_) | (refine wpl_loadW hE 1 rfl rfl rfl rfl Tryd.isAgg78 Tryd.sizeOf78 rfl ?_) | (refine wpl_loadW hE 2 rfl rfl rfl rfl Tryd.isAgg78 Tryd.sizeOf78 rfl ?_) | (refine wpl_loadW hE 3 rfl rfl rfl rfl Tryd.isAgg78 Tryd.sizeOf78 rfl ?_) | (refine wpl_loadW hE 4 rfl rfl rfl rfl Tryd.isAgg78 Tryd.sizeOf78 rfl ?_) | (refine wpl_loadW hE 5 rfl rfl rfl rfl Tryd.isAgg78 Tryd.sizeOf78 rfl ?_) | (refine wpl_loadW hE 6 rfl rfl rfl rfl Tryd.isAgg78 Tryd.sizeOf78 rfl ?_) | (refine wpl_loadW hE 7 rfl rfl rfl rfl Tryd.isAgg78 Tryd.sizeOf78 rfl ?_)))
            | ((with_reducible (show Go.wpList _ _ _ (Go.Oper.mk _ (.store 78 _ _) _ _ _ _ :: _) _ _)); (first | (refine wpl_storeW hE 0 rfl rfl rfl (xs := [.slice ao L.length c]) rfl rfl Tryd.sizeOf78 rfl (by simp [Value.oneCell']) rfl ?_) | (refine wpl_storeW hE 1 rfl rfl rfl (xs := [.slice ao L.length c]) rfl rfl Tryd.sizeOf78 rfl (by simp [Value.oneCell']) rfl ?_) | (refine wpl_storeW hE 2 rfl rfl rfl (xs := [.slice ao L.length c]) rfl rfl Tryd.sizeOf78 rfl (by simp [Value.oneCell']) rfl ?_) | (refine wpl_storeW hE 3 rfl rfl rfl (xs := [.slice ao L.length c]) rfl rfl Tryd.sizeOf78 rfl (by simp [Value.oneCell']) rfl ?_) | (refine wpl_storeW hE 4 rfl rfl rfl (xs := [.slice ao L.length c]) rfl rfl Tryd.sizeOf78 rfl (by simp [Value.oneCell']) rfl ?_) | (refine wpl_storeW hE 5 rfl rfl rfl (xs := [.slice ao L.length c]) rfl rfl Tryd.sizeOf78 rfl (by simp [Value.oneCell']) rfl ?_) | (refine wpl_storeW hE 6 rfl rfl rfl (xs := [.slice ao L.length c]) rfl rfl Tryd.sizeOf78 rfl (by simp [Value.oneCell']) rfl ?_) | (refine wpl_storeW hE 7 rfl rfl rfl (xs := [.slice ao L.length c]) rfl rfl Tryd.sizeOf78 rfl (by simp [Value.oneCell']) rfl ?_)); clear hE; intro w hE; simp only [List.set_cons_zero, List.set_cons_succ] at hE))
          refine bodyPost_ret (results_cell2 rfl hE 0 rfl rfl Tryd.isAgg78 Tryd.sizeOf78 rfl rfl) rfl ?_
          exact ⟨_, rfl, AddPost.bad HB.out (m := [_, _, _]) hE⟩
        · cases dd with
          | false =>
            have HB := SL.hid (show addE L _ = 8 ∧ (8 : Int) ≠ 0 from ⟨HE2.out.trans (if_pos (.inr (.inr (.inr rfl)))), by decide⟩)
            refine wp_region_held_drew (S := (fun w' => ((Instr.loadAt 9 (.pointer (some ⟨b3, 0, none⟩))).run Tryd.prog w' = .ok (.string ⟨xp.toArray⟩) w') ∧ ((Instr.loadAt 4 (.pointer (some ⟨b3, 1, none⟩))).run Tryd.prog w' = .ok (.bool false) w') ∧ ((Instr.loadAt 9 (.pointer (some ⟨b3, 2, none⟩))).run Tryd.prog w' = .ok (.string ⟨xb.toArray⟩) w') ∧ ((Instr.loadAt 78 (.pointer (some ⟨b2, 0, none⟩))).run Tryd.prog w' = .ok (.agg [.slice ao L.length c].toArray) w'))) (by kernel_rfl) ⟨(atVm hE.drew (by repeat (first | exact List.Mem.head _ | refine List.Mem.tail _ ?_)) (by simp [go_sem]) rfl), (atVm hE.drew (by repeat (first | exact List.Mem.head _ | refine List.Mem.tail _ ?_)) (by simp [go_sem]) rfl), (atVm hE.drew (by repeat (first | exact List.Mem.head _ | refine List.Mem.tail _ ?_)) (by simp [go_sem]) rfl), (atWm hE.drew (by repeat (first | exact List.Mem.head _ | refine List.Mem.tail _ ?_)) Tryd.isAgg78 Tryd.sizeOf78 rfl)⟩ (fun hS => ?_)
            refine tV 0 ⟨some 18, .fieldAddr 53 (.tmp 3) 0, _, _, _, none⟩ hS ?_
            refine tL 1 ⟨some 19, .load 9 (.tmp 18), _, _, _, none⟩ hS ?_
            refine tV 2 ⟨some 20, .binOp .eql 9 (.tmp 19) (.const (.string { data := #[] })) 9, _, _, _, none⟩ hS ?_
            refine tV 3 ⟨some 21, .move (.tmp 20), _, _, _, none⟩ hS ?_
            refine tV 4 ⟨some 22, .fieldAddr 53 (.tmp 3) 1, _, _, _, some (3, false)⟩ hS ?_
            refine tL 5 ⟨some 23, .load 4 (.tmp 22), _, _, _, some (3, false)⟩ hS ?_
            refine tV 6 ⟨some 24, .move (.tmp 23), _, _, _, some (3, false)⟩ hS ?_
            refine tU 7 ⟨some 25, .fieldAddr 53 (.tmp 3) 2, _, _, _, some (6, true)⟩ hS ?_
            refine tU 8 ⟨some 26, .load 9 (.tmp 25), _, _, _, some (6, true)⟩ hS ?_
            refine tU 9 ⟨some 27, .binOp .neq 9 (.tmp 26) (.const (.string { data := #[] })) 9, _, _, _, some (6, true)⟩ hS ?_
            refine tV 10 ⟨some 28, .pick (.tmp 24) (.tmp 27) (.const (.bool false)), _, _, _, some (3, false)⟩ hS ?_
            refine tV 11 ⟨some 29, .pick (.tmp 21) (.const (.bool true)) (.tmp 28), _, _, _, none⟩ hS ?_
            refine tV 12 ⟨some 30, .move (.tmp 29), _, _, _, none⟩ hS ?_
            refine tL 13 ⟨some 31, .load 78 (.tmp 2), _, _, _, some (12, false)⟩ hS ?_
            refine tV 14 ⟨some 32, .fieldAddr 53 (.tmp 3) 0, _, _, _, some (12, false)⟩ hS ?_
            refine tL 15 ⟨some 33, .load 9 (.tmp 32), _, _, _, some (12, false)⟩ hS ?_
            refine wpAnyH_ready (rs := [16]) (by kernel_rfl) (by simp) ?_
            refine (AllReadyH.cons (o := ⟨some 34, .call { callee := .value (.func 64), args := #[.tmp 31, .tmp 33], argTypes := #[78, 9] }, _, _, _, some (12, false)⟩) rfl (fun K hK => ?_) AllReadyH.nil)
            (go_simp; refine (HAt.out _ _ sfx hE.drew).mono ?_; rintro e w3 ⟨v, rfl, rfl, hA1⟩)
            refine hK.out _ _ ⟨(atVm hA1 (by repeat (first | exact List.Mem.head _ | refine List.Mem.tail _ ?_)) (by simp [go_sem]) rfl), (atVm hA1 (by repeat (first | exact List.Mem.head _ | refine List.Mem.tail _ ?_)) (by simp [go_sem]) rfl), (atVm hA1 (by repeat (first | exact List.Mem.head _ | refine List.Mem.tail _ ?_)) (by simp [go_sem]) rfl), (atWm hA1 (by repeat (first | exact List.Mem.head _ | refine List.Mem.tail _ ?_)) Tryd.isAgg78 Tryd.sizeOf78 rfl)⟩ (fun hS => ?_)
            clear hK K
            try simp only [Act.put, sb, s0, sz]
            refine tV 17 ⟨some 35, .binOp .geq 3 (.tmp 34) (.const (.int .i64 0)) 3, _, _, _, some (12, false)⟩ hS ?_
            refine tV 18 ⟨some 36, .pick (.tmp 30) (.const (.bool true)) (.tmp 35), _, _, _, none⟩ hS ?_
            refine tV 19 ⟨some 37, .move (.tmp 36), _, _, _, none⟩ hS ?_
            refine tL 20 ⟨some 38, .load 78 (.tmp 2), _, _, _, some (19, false)⟩ hS ?_
            refine tV 21 ⟨some 39, .fieldAddr 53 (.tmp 3) 0, _, _, _, some (19, false)⟩ hS ?_
            refine tL 22 ⟨some 40, .load 9 (.tmp 39), _, _, _, some (19, false)⟩ hS ?_
            refine wpAnyH_ready (rs := [23]) (by kernel_rfl) (by simp) ?_
            refine (AllReadyH.cons (o := ⟨some 41, .call { callee := .value (.func 66), args := #[.tmp 40], argTypes := #[9] }, _, _, _, some (19, false)⟩) rfl (fun K hK => ?_) AllReadyH.nil)
            (go_simp; refine (HPa.out _ _ hA1).mono ?_; rintro e w4 ⟨v, rfl, rfl, hA2⟩)
            refine hK.out _ _ ⟨(atVm hA2 (by repeat (first | exact List.Mem.head _ | refine List.Mem.tail _ ?_)) (by simp [go_sem]) rfl), (atVm hA2 (by repeat (first | exact List.Mem.head _ | refine List.Mem.tail _ ?_)) (by simp [go_sem]) rfl), (atVm hA2 (by repeat (first | exact List.Mem.head _ | refine List.Mem.tail _ ?_)) (by simp [go_sem]) rfl), (atWm hA2 (by repeat (first | exact List.Mem.head _ | refine List.Mem.tail _ ?_)) Tryd.isAgg78 Tryd.sizeOf78 rfl)⟩ (fun hS => ?_)
            clear hK K
            try simp only [Act.put, sb, s0, sz]
            refine wpAnyH_ready (rs := [24]) (by kernel_rfl) (by simp) ?_
            refine (AllReadyH.cons (o := ⟨some 42, .call { callee := .value (.func 65), args := #[.tmp 38, .tmp 41], argTypes := #[78, 9] }, _, _, _, some (19, false)⟩) rfl (fun K hK => ?_) AllReadyH.nil)
            (go_simp; refine (HDi.out _ _ sfx hA2).mono ?_; rintro e w5 ⟨v, rfl, rfl, hA3⟩)
            refine hK.out _ _ ⟨(atVm hA3 (by repeat (first | exact List.Mem.head _ | refine List.Mem.tail _ ?_)) (by simp [go_sem]) rfl), (atVm hA3 (by repeat (first | exact List.Mem.head _ | refine List.Mem.tail _ ?_)) (by simp [go_sem]) rfl), (atVm hA3 (by repeat (first | exact List.Mem.head _ | refine List.Mem.tail _ ?_)) (by simp [go_sem]) rfl), (atWm hA3 (by repeat (first | exact List.Mem.head _ | refine List.Mem.tail _ ?_)) Tryd.isAgg78 Tryd.sizeOf78 rfl)⟩ (fun hS => ?_)
            clear hK K
            try simp only [Act.put, sb, s0, sz]
            refine tV 25 ⟨some 43, .unOp Go.UnOp.not 4 (.tmp 42), _, _, _, some (19, false)⟩ hS ?_
            refine tV 26 ⟨some 44, .pick (.tmp 37) (.const (.bool true)) (.tmp 43), _, _, _, none⟩ hS ?_
            refine wpAnyH_done (by kernel_rfl) ?_ _
            replace hE := hA3
            clear hS
            try clear hA1
            try clear hA2
            try clear hA3
            clear HE2
            go_wp2_with (first
              | go_skip
              | ((with_reducible (show Go.wpList _ _ _ (Go.Oper.mk _ (.load 78 _) _ _ _ _ :: _) _ _)); (first | (refine wpl_loadW hE 0 rfl rfl rfl rfl Tryd.isAgg78 Tryd.sizeOf78 rfl ?_) | (refine wpl_loadW hE 1 rfl rfl rfl rfl Tryd.isAgg78 Tryd.sizeOf78 rfl ?_) | (refine wpl_loadW hE 2 rfl rfl rfl rfl Tryd.isAgg78 Tryd.sizeOf78 rfl ?_) | (refine wpl_loadW hE 3 rfl rfl rfl rfl Tryd.isAgg78 Tryd.sizeOf78 rfl ?_) | (refine wpl_loadW hE 4 rfl rfl rfl rfl Tryd.isAgg78 Tryd.sizeOf78 rfl ?_) | (refine wpl_loadW hE 5 rfl rfl rfl rfl Tryd.isAgg78 Tryd.sizeOf78 rfl ?_) | (refine wpl_loadW hE 6 rfl rfl rfl rfl Tryd.isAgg78 Tryd.sizeOf78 rfl ?_) | (refine wpl_loadW hE 7 rfl rfl rfl rfl Tryd.isAgg78 Tryd.sizeOf78 rfl ?_)))
              | ((with_reducible (show Go.wpList _ _ _ (Go.Oper.mk _ (.store 78 _ _) _ _ _ _ :: _) _ _)); (first | (refine wpl_storeW hE 0 rfl rfl rfl (xs := [.slice ao L.length c]) rfl rfl Tryd.sizeOf78 rfl (by simp [Value.oneCell']) rfl ?_) | (refine wpl_storeW hE 1 rfl rfl rfl (xs := [.slice ao L.length c]) rfl rfl Tryd.sizeOf78 rfl (by simp [Value.oneCell']) rfl ?_) | (refine wpl_storeW hE 2 rfl rfl rfl (xs := [.slice ao L.length c]) rfl rfl Tryd.sizeOf78 rfl (by simp [Value.oneCell']) rfl ?_) | (refine wpl_storeW hE 3 rfl rfl rfl (xs := [.slice ao L.length c]) rfl rfl Tryd.sizeOf78 rfl (by simp [Value.oneCell']) rfl ?_) | (refine wpl_storeW hE 4 rfl rfl rfl (xs := [.slice ao L.length c]) rfl rfl Tryd.sizeOf78 rfl (by simp [Value.oneCell']) rfl ?_) | (refine wpl_storeW hE 5 rfl rfl rfl (xs := [.slice ao L.length c]) rfl rfl Tryd.sizeOf78 rfl (by simp [Value.oneCell']) rfl ?_) | (refine wpl_storeW hE 6 rfl rfl rfl (xs := [.slice ao L.length c]) rfl rfl Tryd.sizeOf78 rfl (by simp [Value.oneCell']) rfl ?_) | (refine wpl_storeW hE 7 rfl rfl rfl (xs := [.slice ao L.length c]) rfl rfl Tryd.sizeOf78 rfl (by simp [Value.oneCell']) rfl ?_)); clear hE; intro w hE; simp only [List.set_cons_zero, List.set_cons_succ] at hE))
            refine bodyPost_ret (results_cell2 rfl hE 0 rfl rfl Tryd.isAgg78 Tryd.sizeOf78 rfl rfl) rfl ?_
            exact ⟨_, rfl, AddPost.bad HB.out (m := [_, _, _]) hE⟩
          | true =>
            have HE3 := SL.hid (HE2.out.trans (if_neg (by have h1 : xp ≠ [] := (by simpa using hA); simp [h1, hC])))
            clear HE2
            refine wp_region_held_drew (S := (fun w' => ((Instr.loadAt 9 (.pointer (some ⟨b3, 0, none⟩))).run Tryd.prog w' = .ok (.string ⟨xp.toArray⟩) w') ∧ ((Instr.loadAt 4 (.pointer (some ⟨b3, 1, none⟩))).run Tryd.prog w' = .ok (.bool false) w') ∧ ((Instr.loadAt 9 (.pointer (some ⟨b3, 2, none⟩))).run Tryd.prog w' = .ok (.string ⟨xb.toArray⟩) w') ∧ ((Instr.loadAt 78 (.pointer (some ⟨b2, 0, none⟩))).run Tryd.prog w' = .ok (.agg [.slice ao L.length c].toArray) w'))) (by kernel_rfl) ⟨(atVm hE.drew (by repeat (first | exact List.Mem.head _ | refine List.Mem.tail _ ?_)) (by simp [go_sem]) rfl), (atVm hE.drew (by repeat (first | exact List.Mem.head _ | refine List.Mem.tail _ ?_)) (by simp [go_sem]) rfl), (atVm hE.drew (by repeat (first | exact List.Mem.head _ | refine List.Mem.tail _ ?_)) (by simp [go_sem]) rfl), (atWm hE.drew (by repeat (first | exact List.Mem.head _ | refine List.Mem.tail _ ?_)) Tryd.isAgg78 Tryd.sizeOf78 rfl)⟩ (fun hS => ?_)
            refine tV 0 ⟨some 18, .fieldAddr 53 (.tmp 3) 0, _, _, _, none⟩ hS ?_
            refine tL 1 ⟨some 19, .load 9 (.tmp 18), _, _, _, none⟩ hS ?_
            refine tV 2 ⟨some 20, .binOp .eql 9 (.tmp 19) (.const (.string { data := #[] })) 9, _, _, _, none⟩ hS ?_
            refine tV 3 ⟨some 21, .move (.tmp 20), _, _, _, none⟩ hS ?_
            refine tV 4 ⟨some 22, .fieldAddr 53 (.tmp 3) 1, _, _, _, some (3, false)⟩ hS ?_
            refine tL 5 ⟨some 23, .load 4 (.tmp 22), _, _, _, some (3, false)⟩ hS ?_
            refine tV 6 ⟨some 24, .move (.tmp 23), _, _, _, some (3, false)⟩ hS ?_
            refine tU 7 ⟨some 25, .fieldAddr 53 (.tmp 3) 2, _, _, _, some (6, true)⟩ hS ?_
            refine tU 8 ⟨some 26, .load 9 (.tmp 25), _, _, _, some (6, true)⟩ hS ?_
            refine tU 9 ⟨some 27, .binOp .neq 9 (.tmp 26) (.const (.string { data := #[] })) 9, _, _, _, some (6, true)⟩ hS ?_
            refine tV 10 ⟨some 28, .pick (.tmp 24) (.tmp 27) (.const (.bool false)), _, _, _, some (3, false)⟩ hS ?_
            refine tV 11 ⟨some 29, .pick (.tmp 21) (.const (.bool true)) (.tmp 28), _, _, _, none⟩ hS ?_
            refine tV 12 ⟨some 30, .move (.tmp 29), _, _, _, none⟩ hS ?_
            refine tL 13 ⟨some 31, .load 78 (.tmp 2), _, _, _, some (12, false)⟩ hS ?_
            refine tV 14 ⟨some 32, .fieldAddr 53 (.tmp 3) 0, _, _, _, some (12, false)⟩ hS ?_
            refine tL 15 ⟨some 33, .load 9 (.tmp 32), _, _, _, some (12, false)⟩ hS ?_
            refine wpAnyH_ready (rs := [16]) (by kernel_rfl) (by simp) ?_
            refine (AllReadyH.cons (o := ⟨some 34, .call { callee := .value (.func 64), args := #[.tmp 31, .tmp 33], argTypes := #[78, 9] }, _, _, _, some (12, false)⟩) rfl (fun K hK => ?_) AllReadyH.nil)
            (go_simp; refine (HAt.out _ _ sfx hE.drew).mono ?_; rintro e w3 ⟨v, rfl, rfl, hA1⟩)
            refine hK.out _ _ ⟨(atVm hA1 (by repeat (first | exact List.Mem.head _ | refine List.Mem.tail _ ?_)) (by simp [go_sem]) rfl), (atVm hA1 (by repeat (first | exact List.Mem.head _ | refine List.Mem.tail _ ?_)) (by simp [go_sem]) rfl), (atVm hA1 (by repeat (first | exact List.Mem.head _ | refine List.Mem.tail _ ?_)) (by simp [go_sem]) rfl), (atWm hA1 (by repeat (first | exact List.Mem.head _ | refine List.Mem.tail _ ?_)) Tryd.isAgg78 Tryd.sizeOf78 rfl)⟩ (fun hS => ?_)
            clear hK K
            try simp only [Act.put, sb, s0, sz]
            refine tV 17 ⟨some 35, .binOp .geq 3 (.tmp 34) (.const (.int .i64 0)) 3, _, _, _, some (12, false)⟩ hS ?_
            refine tV 18 ⟨some 36, .pick (.tmp 30) (.const (.bool true)) (.tmp 35), _, _, _, none⟩ hS ?_
            refine tV 19 ⟨some 37, .move (.tmp 36), _, _, _, none⟩ hS ?_
            refine tL 20 ⟨some 38, .load 78 (.tmp 2), _, _, _, some (19, false)⟩ hS ?_
            refine tV 21 ⟨some 39, .fieldAddr 53 (.tmp 3) 0, _, _, _, some (19, false)⟩ hS ?_
            refine tL 22 ⟨some 40, .load 9 (.tmp 39), _, _, _, some (19, false)⟩ hS ?_
            refine wpAnyH_ready (rs := [23]) (by kernel_rfl) (by simp) ?_
            refine (AllReadyH.cons (o := ⟨some 41, .call { callee := .value (.func 66), args := #[.tmp 40], argTypes := #[9] }, _, _, _, some (19, false)⟩) rfl (fun K hK => ?_) AllReadyH.nil)
            (go_simp; refine (HPa.out _ _ hA1).mono ?_; rintro e w4 ⟨v, rfl, rfl, hA2⟩)
            refine hK.out _ _ ⟨(atVm hA2 (by repeat (first | exact List.Mem.head _ | refine List.Mem.tail _ ?_)) (by simp [go_sem]) rfl), (atVm hA2 (by repeat (first | exact List.Mem.head _ | refine List.Mem.tail _ ?_)) (by simp [go_sem]) rfl), (atVm hA2 (by repeat (first | exact List.Mem.head _ | refine List.Mem.tail _ ?_)) (by simp [go_sem]) rfl), (atWm hA2 (by repeat (first | exact List.Mem.head _ | refine List.Mem.tail _ ?_)) Tryd.isAgg78 Tryd.sizeOf78 rfl)⟩ (fun hS => ?_)
            clear hK K
            try simp only [Act.put, sb, s0, sz]
            refine wpAnyH_ready (rs := [24]) (by kernel_rfl) (by simp) ?_
            refine (AllReadyH.cons (o := ⟨some 42, .call { callee := .value (.func 65), args := #[.tmp 38, .tmp 41], argTypes := #[78, 9] }, _, _, _, some (19, false)⟩) rfl (fun K hK => ?_) AllReadyH.nil)
            (go_simp; refine (HDi.out _ _ sfx hA2).mono ?_; rintro e w5 ⟨v, rfl, rfl, hA3⟩)
            refine hK.out _ _ ⟨(atVm hA3 (by repeat (first | exact List.Mem.head _ | refine List.Mem.tail _ ?_)) (by simp [go_sem]) rfl), (atVm hA3 (by repeat (first | exact List.Mem.head _ | refine List.Mem.tail _ ?_)) (by simp [go_sem]) rfl), (atVm hA3 (by repeat (first | exact List.Mem.head _ | refine List.Mem.tail _ ?_)) (by simp [go_sem]) rfl), (atWm hA3 (by repeat (first | exact List.Mem.head _ | refine List.Mem.tail _ ?_)) Tryd.isAgg78 Tryd.sizeOf78 rfl)⟩ (fun hS => ?_)
            clear hK K
            try simp only [Act.put, sb, s0, sz]
            refine tV 25 ⟨some 43, .unOp Go.UnOp.not 4 (.tmp 42), _, _, _, some (19, false)⟩ hS ?_
            refine tV 26 ⟨some 44, .pick (.tmp 37) (.const (.bool true)) (.tmp 43), _, _, _, none⟩ hS ?_
            refine wpAnyH_done (by kernel_rfl) ?_ _
            replace hE := hA3
            clear hS
            try clear hA1
            try clear hA2
            try clear hA3
            cases hG : decide ((8192 : Int) < (xb.length : Int)) with
            | true =>
              have hG2 := of_decide_eq_true hG
              have HB := SL.hid (show addE L _ = 6 ∧ (6 : Int) ≠ 0 from ⟨HE3.out.trans (if_pos (.inl (by omega))), by decide⟩)
              try clear hG2
              try clear h62
              go_wp2
              refine wp_region_held_drew (S := (fun w' => ((Instr.loadAt 9 (.pointer (some ⟨b3, 0, none⟩))).run Tryd.prog w' = .ok (.string ⟨xp.toArray⟩) w') ∧ ((Instr.loadAt 9 (.pointer (some ⟨b3, 2, none⟩))).run Tryd.prog w' = .ok (.string ⟨xb.toArray⟩) w') ∧ ((Instr.loadAt 78 (.pointer (some ⟨b2, 0, none⟩))).run Tryd.prog w' = .ok (.agg [.slice ao L.length c].toArray) w'))) (by kernel_rfl) ⟨(atVm hE.drew (by repeat (first | exact List.Mem.head _ | refine List.Mem.tail _ ?_)) (by simp [go_sem]) rfl), (atVm hE.drew (by repeat (first | exact List.Mem.head _ | refine List.Mem.tail _ ?_)) (by simp [go_sem]) rfl), (atWm hE.drew (by repeat (first | exact List.Mem.head _ | refine List.Mem.tail _ ?_)) Tryd.isAgg78 Tryd.sizeOf78 rfl)⟩ (fun hS => ?_)
              refine tV 0 ⟨some 46, .fieldAddr 53 (.tmp 3) 2, _, _, _, none⟩ hS ?_
              refine tL 1 ⟨some 47, .load 9 (.tmp 46), _, _, _, none⟩ hS ?_
              refine tV 2 ⟨some 48, .call { callee := .builtin .len, args := #[.tmp 47], argTypes := #[9] }, _, _, _, none⟩ hS ?_
              refine tV 3 ⟨some 49, .binOp .gtr 3 (.tmp 48) (.const (.int .i64 8192)) 3, _, _, _, none⟩ hS ?_
              refine tV 4 ⟨some 50, .move (.tmp 49), _, _, _, none⟩ hS ?_
              refine tU 5 ⟨some 51, .load 78 (.tmp 2), _, _, _, some (4, false)⟩ hS ?_
              refine tU 6 ⟨some 52, .fieldAddr 53 (.tmp 3) 0, _, _, _, some (4, false)⟩ hS ?_
              refine tU 7 ⟨some 53, .load 9 (.tmp 52), _, _, _, some (4, false)⟩ hS ?_
              refine tU 8 ⟨some 54, .call { callee := .value (.func 66), args := #[.tmp 53], argTypes := #[9] }, _, _, _, some (4, false)⟩ hS ?_
              refine tU 9 ⟨some 55, .call { callee := .value (.func 67), args := #[.tmp 51, .tmp 54], argTypes := #[78, 9] }, _, _, _, some (4, false)⟩ hS ?_
              refine tU 10 ⟨some 56, .call { callee := .builtin .len, args := #[.tmp 55], argTypes := #[110] }, _, _, _, some (4, false)⟩ hS ?_
              refine tU 11 ⟨some 57, .binOp .geq 3 (.tmp 56) (.const (.int .i64 6)) 3, _, _, _, some (4, false)⟩ hS ?_
              refine tV 12 ⟨some 58, .pick (.tmp 50) (.const (.bool true)) (.tmp 57), _, _, _, none⟩ hS ?_
              refine wpAnyH_done (by kernel_rfl) ?_ _
              replace hE := hE.drew
              clear hS
              clear HE3
              go_wp2_with (first
                | go_skip
                | ((with_reducible (show Go.wpList _ _ _ (Go.Oper.mk _ (.load 78 _) _ _ _ _ :: _) _ _)); (first | (refine wpl_loadW hE 0 rfl rfl rfl rfl Tryd.isAgg78 Tryd.sizeOf78 rfl ?_) | (refine wpl_loadW hE 1 rfl rfl rfl rfl Tryd.isAgg78 Tryd.sizeOf78 rfl ?_) | (refine wpl_loadW hE 2 rfl rfl rfl rfl Tryd.isAgg78 Tryd.sizeOf78 rfl ?_) | (refine wpl_loadW hE 3 rfl rfl rfl rfl Tryd.isAgg78 Tryd.sizeOf78 rfl ?_) | (refine wpl_loadW hE 4 rfl rfl rfl rfl Tryd.isAgg78 Tryd.sizeOf78 rfl ?_) | (refine wpl_loadW hE 5 rfl rfl rfl rfl Tryd.isAgg78 Tryd.sizeOf78 rfl ?_) | (refine wpl_loadW hE 6 rfl rfl rfl rfl Tryd.isAgg78 Tryd.sizeOf78 rfl ?_) | (refine wpl_loadW hE 7 rfl rfl rfl rfl Tryd.isAgg78 Tryd.sizeOf78 rfl ?_)))
                | ((with_reducible (show Go.wpList _ _ _ (Go.Oper.mk _ (.store 78 _ _) _ _ _ _ :: _) _ _)); (first | (refine wpl_storeW hE 0 rfl rfl rfl (xs := [.slice ao L.length c]) rfl rfl Tryd.sizeOf78 rfl (by simp [Value.oneCell']) rfl ?_) | (refine wpl_storeW hE 1 rfl rfl rfl (xs := [.slice ao L.length c]) rfl rfl Tryd.sizeOf78 rfl (by simp [Value.oneCell']) rfl ?_) | (refine wpl_storeW hE 2 rfl rfl rfl (xs := [.slice ao L.length c]) rfl rfl Tryd.sizeOf78 rfl (by simp [Value.oneCell']) rfl ?_) | (refine wpl_storeW hE 3 rfl rfl rfl (xs := [.slice ao L.length c]) rfl rfl Tryd.sizeOf78 rfl (by simp [Value.oneCell']) rfl ?_) | (refine wpl_storeW hE 4 rfl rfl rfl (xs := [.slice ao L.length c]) rfl rfl Tryd.sizeOf78 rfl (by simp [Value.oneCell']) rfl ?_) | (refine wpl_storeW hE 5 rfl rfl rfl (xs := [.slice ao L.length c]) rfl rfl Tryd.sizeOf78 rfl (by simp [Value.oneCell']) rfl ?_) | (refine wpl_storeW hE 6 rfl rfl rfl (xs := [.slice ao L.length c]) rfl rfl Tryd.sizeOf78 rfl (by simp [Value.oneCell']) rfl ?_) | (refine wpl_storeW hE 7 rfl rfl rfl (xs := [.slice ao L.length c]) rfl rfl Tryd.sizeOf78 rfl (by simp [Value.oneCell']) rfl ?_)); clear hE; intro w hE; simp only [List.set_cons_zero, List.set_cons_succ] at hE))
              refine bodyPost_ret (results_cell2 rfl hE 0 rfl rfl Tryd.isAgg78 Tryd.sizeOf78 rfl rfl) rfl ?_
              exact ⟨_, rfl, AddPost.bad HB.out (m := [_, _, _]) hE⟩
            | false =>
              have hG2 := of_decide_eq_false hG
              cases h6 : decide ((6 : Int) ≤ (ki.length : Int)) with
              | true =>
                have h62 := of_decide_eq_true h6
                have HB := SL.hid (show addE L _ = 6 ∧ (6 : Int) ≠ 0 from ⟨HE3.out.trans (if_pos (.inr (by omega))), by decide⟩)
                try clear hG2
                try clear h62
                go_wp2
                refine wp_region_held_drew (S := (fun w' => ((Instr.loadAt 9 (.pointer (some ⟨b3, 0, none⟩))).run Tryd.prog w' = .ok (.string ⟨xp.toArray⟩) w') ∧ ((Instr.loadAt 9 (.pointer (some ⟨b3, 2, none⟩))).run Tryd.prog w' = .ok (.string ⟨xb.toArray⟩) w') ∧ ((Instr.loadAt 78 (.pointer (some ⟨b2, 0, none⟩))).run Tryd.prog w' = .ok (.agg [.slice ao L.length c].toArray) w'))) (by kernel_rfl) ⟨(atVm hE.drew (by repeat (first | exact List.Mem.head _ | refine List.Mem.tail _ ?_)) (by simp [go_sem]) rfl), (atVm hE.drew (by repeat (first | exact List.Mem.head _ | refine List.Mem.tail _ ?_)) (by simp [go_sem]) rfl), (atWm hE.drew (by repeat (first | exact List.Mem.head _ | refine List.Mem.tail _ ?_)) Tryd.isAgg78 Tryd.sizeOf78 rfl)⟩ (fun hS => ?_)
                refine tV 0 ⟨some 46, .fieldAddr 53 (.tmp 3) 2, _, _, _, none⟩ hS ?_
                refine tL 1 ⟨some 47, .load 9 (.tmp 46), _, _, _, none⟩ hS ?_
                refine tV 2 ⟨some 48, .call { callee := .builtin .len, args := #[.tmp 47], argTypes := #[9] }, _, _, _, none⟩ hS ?_
                refine tV 3 ⟨some 49, .binOp .gtr 3 (.tmp 48) (.const (.int .i64 8192)) 3, _, _, _, none⟩ hS ?_
                refine tV 4 ⟨some 50, .move (.tmp 49), _, _, _, none⟩ hS ?_
                refine tL 5 ⟨some 51, .load 78 (.tmp 2), _, _, _, some (4, false)⟩ hS ?_
                refine tV 6 ⟨some 52, .fieldAddr 53 (.tmp 3) 0, _, _, _, some (4, false)⟩ hS ?_
                refine tL 7 ⟨some 53, .load 9 (.tmp 52), _, _, _, some (4, false)⟩ hS ?_
                refine wpAnyH_ready (rs := [8]) (by kernel_rfl) (by simp) ?_
                refine (AllReadyH.cons (o := ⟨some 54, .call { callee := .value (.func 66), args := #[.tmp 53], argTypes := #[9] }, _, _, _, some (4, false)⟩) rfl (fun K hK => ?_) AllReadyH.nil)
                (go_simp; refine (HPa.out _ _ hE.drew).mono ?_; rintro e w4 ⟨v, rfl, rfl, hA1⟩)
                refine hK.out _ _ ⟨(atVm hA1 (by repeat (first | exact List.Mem.head _ | refine List.Mem.tail _ ?_)) (by simp [go_sem]) rfl), (atVm hA1 (by repeat (first | exact List.Mem.head _ | refine List.Mem.tail _ ?_)) (by simp [go_sem]) rfl), (atWm hA1 (by repeat (first | exact List.Mem.head _ | refine List.Mem.tail _ ?_)) Tryd.isAgg78 Tryd.sizeOf78 rfl)⟩ (fun hS => ?_)
                clear hK K
                try simp only [Act.put, sb, s0, sz]
                refine wpAnyH_ready (rs := [9]) (by kernel_rfl) (by simp) ?_
                refine (AllReadyH.cons (o := ⟨some 55, .call { callee := .value (.func 67), args := #[.tmp 51, .tmp 54], argTypes := #[78, 9] }, _, _, _, some (4, false)⟩) rfl (fun K hK => ?_) AllReadyH.nil)
                (go_simp; refine (HKi.out _ _ sfx hA1).mono ?_; rintro e w5 ⟨v, rfl, ka, kc, rfl, hA2⟩)
                refine hK.out _ _ ⟨(atVm hA2 (by repeat (first | exact List.Mem.head _ | refine List.Mem.tail _ ?_)) (by simp [go_sem]) rfl), (atVm hA2 (by repeat (first | exact List.Mem.head _ | refine List.Mem.tail _ ?_)) (by simp [go_sem]) rfl), (atWm hA2 (by repeat (first | exact List.Mem.head _ | refine List.Mem.tail _ ?_)) Tryd.isAgg78 Tryd.sizeOf78 rfl)⟩ (fun hS => ?_)
                clear hK K
                try simp only [Act.put, sb, s0, sz]
                refine tV 10 ⟨some 56, .call { callee := .builtin .len, args := #[.tmp 55], argTypes := #[110] }, _, _, _, some (4, false)⟩ hS ?_
                refine tV 11 ⟨some 57, .binOp .geq 3 (.tmp 56) (.const (.int .i64 6)) 3, _, _, _, some (4, false)⟩ hS ?_
                refine tV 12 ⟨some 58, .pick (.tmp 50) (.const (.bool true)) (.tmp 57), _, _, _, none⟩ hS ?_
                refine wpAnyH_done (by kernel_rfl) ?_ _
                replace hE := hA2.tail
                clear hS
                try clear hA1
                try clear hA2
                try clear hA3
                clear HE3
                go_wp2_with (first
                  | go_skip
                  | ((with_reducible (show Go.wpList _ _ _ (Go.Oper.mk _ (.load 78 _) _ _ _ _ :: _) _ _)); (first | (refine wpl_loadW hE 0 rfl rfl rfl rfl Tryd.isAgg78 Tryd.sizeOf78 rfl ?_) | (refine wpl_loadW hE 1 rfl rfl rfl rfl Tryd.isAgg78 Tryd.sizeOf78 rfl ?_) | (refine wpl_loadW hE 2 rfl rfl rfl rfl Tryd.isAgg78 Tryd.sizeOf78 rfl ?_) | (refine wpl_loadW hE 3 rfl rfl rfl rfl Tryd.isAgg78 Tryd.sizeOf78 rfl ?_) | (refine wpl_loadW hE 4 rfl rfl rfl rfl Tryd.isAgg78 Tryd.sizeOf78 rfl ?_) | (refine wpl_loadW hE 5 rfl rfl rfl rfl Tryd.isAgg78 Tryd.sizeOf78 rfl ?_) | (refine wpl_loadW hE 6 rfl rfl rfl rfl Tryd.isAgg78 Tryd.sizeOf78 rfl ?_) | (refine wpl_loadW hE 7 rfl rfl rfl rfl Tryd.isAgg78 Tryd.sizeOf78 rfl ?_)))
                  | ((with_reducible (show Go.wpList _ _ _ (Go.Oper.mk _ (.store 78 _ _) _ _ _ _ :: _) _ _)); (first | (refine wpl_storeW hE 0 rfl rfl rfl (xs := [.slice ao L.length c]) rfl rfl Tryd.sizeOf78 rfl (by simp [Value.oneCell']) rfl ?_) | (refine wpl_storeW hE 1 rfl rfl rfl (xs := [.slice ao L.length c]) rfl rfl Tryd.sizeOf78 rfl (by simp [Value.oneCell']) rfl ?_) | (refine wpl_storeW hE 2 rfl rfl rfl (xs := [.slice ao L.length c]) rfl rfl Tryd.sizeOf78 rfl (by simp [Value.oneCell']) rfl ?_) | (refine wpl_storeW hE 3 rfl rfl rfl (xs := [.slice ao L.length c]) rfl rfl Tryd.sizeOf78 rfl (by simp [Value.oneCell']) rfl ?_) | (refine wpl_storeW hE 4 rfl rfl rfl (xs := [.slice ao L.length c]) rfl rfl Tryd.sizeOf78 rfl (by simp [Value.oneCell']) rfl ?_) | (refine wpl_storeW hE 5 rfl rfl rfl (xs := [.slice ao L.length c]) rfl rfl Tryd.sizeOf78 rfl (by simp [Value.oneCell']) rfl ?_) | (refine wpl_storeW hE 6 rfl rfl rfl (xs := [.slice ao L.length c]) rfl rfl Tryd.sizeOf78 rfl (by simp [Value.oneCell']) rfl ?_) | (refine wpl_storeW hE 7 rfl rfl rfl (xs := [.slice ao L.length c]) rfl rfl Tryd.sizeOf78 rfl (by simp [Value.oneCell']) rfl ?_)); clear hE; intro w hE; simp only [List.set_cons_zero, List.set_cons_succ] at hE))
                refine bodyPost_ret (results_cell2 rfl hE 0 rfl rfl Tryd.isAgg78 Tryd.sizeOf78 rfl rfl) rfl ?_
                exact ⟨_, rfl, AddPost.bad HB.out (m := [_, _, _]) hE⟩
              | false =>
                have h62 := of_decide_eq_false h6
                have HB := SL.hid (show addE L _ = 0 from HE3.out.trans (if_neg (by omega)))
                try clear hG2
                try clear h62
                go_wp2
                refine wp_region_held_drew (S := (fun w' => ((Instr.loadAt 9 (.pointer (some ⟨b3, 0, none⟩))).run Tryd.prog w' = .ok (.string ⟨xp.toArray⟩) w') ∧ ((Instr.loadAt 9 (.pointer (some ⟨b3, 2, none⟩))).run Tryd.prog w' = .ok (.string ⟨xb.toArray⟩) w') ∧ ((Instr.loadAt 78 (.pointer (some ⟨b2, 0, none⟩))).run Tryd.prog w' = .ok (.agg [.slice ao L.length c].toArray) w'))) (by kernel_rfl) ⟨(atVm hE.drew (by repeat (first | exact List.Mem.head _ | refine List.Mem.tail _ ?_)) (by simp [go_sem]) rfl), (atVm hE.drew (by repeat (first | exact List.Mem.head _ | refine List.Mem.tail _ ?_)) (by simp [go_sem]) rfl), (atWm hE.drew (by repeat (first | exact List.Mem.head _ | refine List.Mem.tail _ ?_)) Tryd.isAgg78 Tryd.sizeOf78 rfl)⟩ (fun hS => ?_)
                refine tV 0 ⟨some 46, .fieldAddr 53 (.tmp 3) 2, _, _, _, none⟩ hS ?_
                refine tL 1 ⟨some 47, .load 9 (.tmp 46), _, _, _, none⟩ hS ?_
                refine tV 2 ⟨some 48, .call { callee := .builtin .len, args := #[.tmp 47], argTypes := #[9] }, _, _, _, none⟩ hS ?_
                refine tV 3 ⟨some 49, .binOp .gtr 3 (.tmp 48) (.const (.int .i64 8192)) 3, _, _, _, none⟩ hS ?_
                refine tV 4 ⟨some 50, .move (.tmp 49), _, _, _, none⟩ hS ?_
                refine tL 5 ⟨some 51, .load 78 (.tmp 2), _, _, _, some (4, false)⟩ hS ?_
                refine tV 6 ⟨some 52, .fieldAddr 53 (.tmp 3) 0, _, _, _, some (4, false)⟩ hS ?_
                refine tL 7 ⟨some 53, .load 9 (.tmp 52), _, _, _, some (4, false)⟩ hS ?_
                refine wpAnyH_ready (rs := [8]) (by kernel_rfl) (by simp) ?_
                refine (AllReadyH.cons (o := ⟨some 54, .call { callee := .value (.func 66), args := #[.tmp 53], argTypes := #[9] }, _, _, _, some (4, false)⟩) rfl (fun K hK => ?_) AllReadyH.nil)
                (go_simp; refine (HPa.out _ _ hE.drew).mono ?_; rintro e w4 ⟨v, rfl, rfl, hA1⟩)
                refine hK.out _ _ ⟨(atVm hA1 (by repeat (first | exact List.Mem.head _ | refine List.Mem.tail _ ?_)) (by simp [go_sem]) rfl), (atVm hA1 (by repeat (first | exact List.Mem.head _ | refine List.Mem.tail _ ?_)) (by simp [go_sem]) rfl), (atWm hA1 (by repeat (first | exact List.Mem.head _ | refine List.Mem.tail _ ?_)) Tryd.isAgg78 Tryd.sizeOf78 rfl)⟩ (fun hS => ?_)
                clear hK K
                try simp only [Act.put, sb, s0, sz]
                refine wpAnyH_ready (rs := [9]) (by kernel_rfl) (by simp) ?_
                refine (AllReadyH.cons (o := ⟨some 55, .call { callee := .value (.func 67), args := #[.tmp 51, .tmp 54], argTypes := #[78, 9] }, _, _, _, some (4, false)⟩) rfl (fun K hK => ?_) AllReadyH.nil)
                (go_simp; refine (HKi.out _ _ sfx hA1).mono ?_; rintro e w5 ⟨v, rfl, ka, kc, rfl, hA2⟩)
                refine hK.out _ _ ⟨(atVm hA2 (by repeat (first | exact List.Mem.head _ | refine List.Mem.tail _ ?_)) (by simp [go_sem]) rfl), (atVm hA2 (by repeat (first | exact List.Mem.head _ | refine List.Mem.tail _ ?_)) (by simp [go_sem]) rfl), (atWm hA2 (by repeat (first | exact List.Mem.head _ | refine List.Mem.tail _ ?_)) Tryd.isAgg78 Tryd.sizeOf78 rfl)⟩ (fun hS => ?_)
                clear hK K
                try simp only [Act.put, sb, s0, sz]
                refine tV 10 ⟨some 56, .call { callee := .builtin .len, args := #[.tmp 55], argTypes := #[110] }, _, _, _, some (4, false)⟩ hS ?_
                refine tV 11 ⟨some 57, .binOp .geq 3 (.tmp 56) (.const (.int .i64 6)) 3, _, _, _, some (4, false)⟩ hS ?_
                refine tV 12 ⟨some 58, .pick (.tmp 50) (.const (.bool true)) (.tmp 57), _, _, _, none⟩ hS ?_
                refine wpAnyH_done (by kernel_rfl) ?_ _
                replace hE := hA2.tail
                clear hS
                try clear hA1
                try clear hA2
                try clear hA3
                clear HE3
                go_wp2
                refine wp_region_held_drew (S := (fun w' => ((Instr.loadAt 22 (.pointer (some ⟨b2, 0, none⟩))).run Tryd.prog w' = .ok (.slice ao L.length c) w') ∧ ((Instr.loadAt 53 (.pointer (some ⟨b3, 0, none⟩))).run Tryd.prog w' = .ok (.agg [.string ⟨xp.toArray⟩, .bool false, .string ⟨xb.toArray⟩].toArray) w'))) (by kernel_rfl) ⟨(atVm hE.drew (by repeat (first | exact List.Mem.head _ | refine List.Mem.tail _ ?_)) (by simp [go_sem]) rfl), (atWm hE.drew (by repeat (first | exact List.Mem.head _ | refine List.Mem.tail _ ?_)) Tryd.isAgg53 Tryd.sizeOf53 rfl)⟩ (fun hS => ?_)
                refine tV 0 ⟨some 60, .fieldAddr 78 (.tmp 2) 0, _, _, _, none⟩ hS ?_
                refine tL 1 ⟨some 61, .load 22 (.tmp 60), _, _, _, none⟩ hS ?_
                refine tL 3 ⟨some 63, .load 53 (.tmp 3), _, _, _, none⟩ hS ?_
                refine wpAnyH_ready (rs := [2, 4]) (by kernel_rfl) (by simp) ?_
                refine (AllReadyH.cons (o := ⟨some 62, .call { callee := .builtin .append, args := #[.const (.slice none 0 0), .tmp 61], argTypes := #[22, 22] }, _, _, _, none⟩) rfl (fun K hK => ?_) (AllReadyH.cons (o := ⟨some 64, .buildSlice 22 1 #[(0, .tmp 63)], _, _, _, none⟩) rfl (fun K hK => ?_) AllReadyH.nil))
                focus
                  ((first | refine step_appendNil hB rfl (by rfl) (by rfl) (by rfl) Tryd.underlying22 info_en (by decide) (hk _ (hB.suf sfx)) (enC_flat_len L) (flat_one L) (by omega) (by omega) ?_ | refine step_appendNil hE.drew rfl (by rfl) (by rfl) (by rfl) Tryd.underlying22 info_en (by decide) (hk _ (hE.drew.suf sfx)) (enC_flat_len L) (flat_one L) (by omega) (by omega) ?_); intro a1 c1 w6 hA)
                  refine hK.out _ _ ⟨(atVm hA (by repeat (first | exact List.Mem.head _ | refine List.Mem.tail _ ?_)) (by simp [go_sem]) rfl), (atWm hA (by repeat (first | exact List.Mem.head _ | refine List.Mem.tail _ ?_)) Tryd.isAgg53 Tryd.sizeOf53 rfl)⟩ (fun hS => ?_)
                  clear hK K
                  try simp only [Act.put, sb, s0, sz]
                  refine wpAnyH_ready (rs := [4]) (by kernel_rfl) (by simp) ?_
                  refine (AllReadyH.cons (o := ⟨some 64, .buildSlice 22 1 #[(0, .tmp 63)], _, _, _, none⟩) rfl (fun K hK => ?_) AllReadyH.nil)
                  ((first | refine step_build1 hA rfl (by rfl) (xs := enC ⟨xp, false, xb⟩) (by rfl) Tryd.underlying22 zs_en Tryd.sizeOf53 (by decide) (by decide) rfl ?_ | refine step_build1 hE.drew rfl (by rfl) (xs := enC ⟨xp, false, xb⟩) (by rfl) Tryd.underlying22 zs_en Tryd.sizeOf53 (by decide) (by decide) rfl ?_); intro b9 w7 hB)
                  refine hK.out _ _ ⟨(atVm hB (by repeat (first | exact List.Mem.head _ | refine List.Mem.tail _ ?_)) (by simp [go_sem]) rfl), (atWm hB (by repeat (first | exact List.Mem.head _ | refine List.Mem.tail _ ?_)) Tryd.isAgg53 Tryd.sizeOf53 rfl)⟩ (fun hS => ?_)
                  clear hK K
                  try simp only [Act.put, sb, s0, sz]
                  refine wpAnyH_ready (rs := [5]) (by kernel_rfl) (by simp) ?_
                  refine (AllReadyH.cons (o := ⟨some 65, .call { callee := .builtin .append, args := #[.tmp 62, .tmp 64], argTypes := #[22, 22] }, _, _, _, none⟩) rfl (fun K hK => ?_) AllReadyH.nil)
                  ((first | refine step_appendG hB 1 rfl rfl (by rfl) (by rfl) (by rfl) Tryd.underlying22 info_en (by decide) (m := 1) (news := enC ⟨xp, false, xb⟩) (reads_pt hB 0 rfl (off := 0) (fun j u hu => by rw [Nat.zero_add, List.getElem?_toArray]; exact hu)) rfl (enC_one _) (by omega) (by omega) ?_ | refine step_appendG hA 0 rfl rfl (by rfl) (by rfl) (by rfl) Tryd.underlying22 info_en (by decide) (m := 1) (news := enC ⟨xp, false, xb⟩) (reads_pt hA 1 rfl (off := 0) (fun j u hu => by rw [Nat.zero_add, List.getElem?_toArray]; exact hu)) rfl (enC_one _) (by omega) (by omega) ?_); intro a2 c2 w8 hC; simp only [List.set_cons_zero, List.set_cons_succ] at hC)
                  refine hK.out _ _ ⟨(atVm hC (by repeat (first | exact List.Mem.head _ | refine List.Mem.tail _ ?_)) (by simp [go_sem]) rfl), (atWm hC (by repeat (first | exact List.Mem.head _ | refine List.Mem.tail _ ?_)) Tryd.isAgg53 Tryd.sizeOf53 rfl)⟩ (fun hS => ?_)
                  clear hK K
                  try simp only [Act.put, sb, s0, sz]
                  refine tV 6 ⟨some 66, .build 78 #[(0, .tmp 65)], _, _, _, none⟩ hS ?_
                  refine wpAnyH_ready (rs := [7]) (by kernel_rfl) (by simp) ?_
                  refine (AllReadyH.cons (o := ⟨none, .store 78 (.tmp 4) (.tmp 66), _, _, _, none⟩) rfl (fun K hK => ?_) AllReadyH.nil)
                  (refine step_storeW hC 2 rfl (by rfl) (by rfl) (by rfl) (xs := [.slice a2 (L.length + 1) c2]) (by rfl) Tryd.sizeOf78 rfl (by simp [Value.oneCell']) rfl ?_; intro w9 hD; simp only [List.set_cons_zero, List.set_cons_succ] at hD)
                  refine hK.out _ _ ⟨(atVm hD (by repeat (first | exact List.Mem.head _ | refine List.Mem.tail _ ?_)) (by simp [go_sem]) rfl), (atWm hD (by repeat (first | exact List.Mem.head _ | refine List.Mem.tail _ ?_)) Tryd.isAgg53 Tryd.sizeOf53 rfl)⟩ (fun hS => ?_)
                  clear hK K
                  try simp only [Act.put, sb, s0, sz]
                  refine tV 8 ⟨some 5, .assign (.const (.int .i64 0)), _, _, _, none⟩ hS ?_
                  refine wpAnyH_done (by kernel_rfl) ?_ _
                rotate_right
                focus
                  ((first | refine step_build1 hA rfl (by rfl) (xs := enC ⟨xp, false, xb⟩) (by rfl) Tryd.underlying22 zs_en Tryd.sizeOf53 (by decide) (by decide) rfl ?_ | refine step_build1 hE.drew rfl (by rfl) (xs := enC ⟨xp, false, xb⟩) (by rfl) Tryd.underlying22 zs_en Tryd.sizeOf53 (by decide) (by decide) rfl ?_); intro b9 w7 hB)
                  refine hK.out _ _ ⟨(atVm hB (by repeat (first | exact List.Mem.head _ | refine List.Mem.tail _ ?_)) (by simp [go_sem]) rfl), (atWm hB (by repeat (first | exact List.Mem.head _ | refine List.Mem.tail _ ?_)) Tryd.isAgg53 Tryd.sizeOf53 rfl)⟩ (fun hS => ?_)
                  clear hK K
                  try simp only [Act.put, sb, s0, sz]
                  refine wpAnyH_ready (rs := [2]) (by kernel_rfl) (by simp) ?_
                  refine (AllReadyH.cons (o := ⟨some 62, .call { callee := .builtin .append, args := #[.const (.slice none 0 0), .tmp 61], argTypes := #[22, 22] }, _, _, _, none⟩) rfl (fun K hK => ?_) AllReadyH.nil)
                  ((first | refine step_appendNil hB rfl (by rfl) (by rfl) (by rfl) Tryd.underlying22 info_en (by decide) (hk _ (hB.suf sfx)) (enC_flat_len L) (flat_one L) (by omega) (by omega) ?_ | refine step_appendNil hE.drew rfl (by rfl) (by rfl) (by rfl) Tryd.underlying22 info_en (by decide) (hk _ (hE.drew.suf sfx)) (enC_flat_len L) (flat_one L) (by omega) (by omega) ?_); intro a1 c1 w6 hA)
                  refine hK.out _ _ ⟨(atVm hA (by repeat (first | exact List.Mem.head _ | refine List.Mem.tail _ ?_)) (by simp [go_sem]) rfl), (atWm hA (by repeat (first | exact List.Mem.head _ | refine List.Mem.tail _ ?_)) Tryd.isAgg53 Tryd.sizeOf53 rfl)⟩ (fun hS => ?_)
                  clear hK K
                  try simp only [Act.put, sb, s0, sz]
                  refine wpAnyH_ready (rs := [5]) (by kernel_rfl) (by simp) ?_
                  refine (AllReadyH.cons (o := ⟨some 65, .call { callee := .builtin .append, args := #[.tmp 62, .tmp 64], argTypes := #[22, 22] }, _, _, _, none⟩) rfl (fun K hK => ?_) AllReadyH.nil)
                  ((first | refine step_appendG hB 1 rfl rfl (by rfl) (by rfl) (by rfl) Tryd.underlying22 info_en (by decide) (m := 1) (news := enC ⟨xp, false, xb⟩) (reads_pt hB 0 rfl (off := 0) (fun j u hu => by rw [Nat.zero_add, List.getElem?_toArray]; exact hu)) rfl (enC_one _) (by omega) (by omega) ?_ | refine step_appendG hA 0 rfl rfl (by rfl) (by rfl) (by rfl) Tryd.underlying22 info_en (by decide) (m := 1) (news := enC ⟨xp, false, xb⟩) (reads_pt hA 1 rfl (off := 0) (fun j u hu => by rw [Nat.zero_add, List.getElem?_toArray]; exact hu)) rfl (enC_one _) (by omega) (by omega) ?_); intro a2 c2 w8 hC; simp only [List.set_cons_zero, List.set_cons_succ] at hC)
                  refine hK.out _ _ ⟨(atVm hC (by repeat (first | exact List.Mem.head _ | refine List.Mem.tail _ ?_)) (by simp [go_sem]) rfl), (atWm hC (by repeat (first | exact List.Mem.head _ | refine List.Mem.tail _ ?_)) Tryd.isAgg53 Tryd.sizeOf53 rfl)⟩ (fun hS => ?_)
                  clear hK K
                  try simp only [Act.put, sb, s0, sz]
                  refine tV 6 ⟨some 66, .build 78 #[(0, .tmp 65)], _, _, _, none⟩ hS ?_
                  refine wpAnyH_ready (rs := [7]) (by kernel_rfl) (by simp) ?_
                  refine (AllReadyH.cons (o := ⟨none, .store 78 (.tmp 4) (.tmp 66), _, _, _, none⟩) rfl (fun K hK => ?_) AllReadyH.nil)
                  (refine step_storeW hC 2 rfl (by rfl) (by rfl) (by rfl) (xs := [.slice a2 (L.length + 1) c2]) (by rfl) Tryd.sizeOf78 rfl (by simp [Value.oneCell']) rfl ?_; intro w9 hD; simp only [List.set_cons_zero, List.set_cons_succ] at hD)
                  refine hK.out _ _ ⟨(atVm hD (by repeat (first | exact List.Mem.head _ | refine List.Mem.tail _ ?_)) (by simp [go_sem]) rfl), (atWm hD (by repeat (first | exact List.Mem.head _ | refine List.Mem.tail _ ?_)) Tryd.isAgg53 Tryd.sizeOf53 rfl)⟩ (fun hS => ?_)
                  clear hK K
                  try simp only [Act.put, sb, s0, sz]
                  refine tV 8 ⟨some 5, .assign (.const (.int .i64 0)), _, _, _, none⟩ hS ?_
                  refine wpAnyH_done (by kernel_rfl) ?_ _
                all_goals
                  clear hC hB hA hE hS
                  go_wp2
                  refine bodyPost_ret (results_cell2 rfl hD 2 rfl rfl Tryd.isAgg78 Tryd.sizeOf78 rfl rfl) rfl ?_
                  exact ⟨_, rfl, AddPost.good HB.out (m := [_, _, _, _, _]) (fun lk w h => by first | exact reads_row h 0 rfl | exact reads_row h 1 rfl) hD⟩
end Go.Proofs.YtljfkejkohmimaaDoor
namespace Go.SL
end Go.SL
namespace Go.Proofs.YtljfkejkohmimaaDoor
open Go.RowKit Go.SL

theorem add_nodup {L : List En} {x : En} (hn : (L.map En.path).Nodup) (h : addE L x = 0) : ((L ++ [x]).map En.path).Nodup := by
  have hh : hasD L x.path = false := by
    rw [addE] at h
    split at h
    · rename_i h1; exact absurd h h1
    · split at h
      · cases h
      · rename_i h2
        cases hx : hasD L x.path with
        | false => rfl
        | true => exact absurd (.inr (.inr (.inl hx))) h2
  rw [List.map_append, List.nodup_append]
  refine ⟨hn, by simp, ?_⟩
  intro a ha b hb e
  subst e
  simp only [List.map_cons, List.map_nil, List.mem_singleton] at hb
  subst hb
  obtain ⟨y, hy, hp⟩ := List.mem_map.1 ha
  rw [hasD, List.any_eq_false] at hh
  exact hh y hy (by simpa using hp)
def BdPost (es : List En) (l : List HProp) (v : Value) (w' : World) : Prop :=
  ∃ (m : List HProp) (a : Option Addr) (c : Nat), v = .tuple #[.agg #[.slice a (buildD es).2.length c], .int .i64 (buildD es).1] ∧ Ent (m ++ l) w' ∧ Knows (m ++ l) (reads (.slice a (buildD es).2.length c) (buildD es).2.length ((buildD es).2.flatMap enC))
def BdRel (es : List En) (b2 b4 : Nat) (l : List HProp) (i : Value) (wr : World) : Prop :=
  ∃ (k : Nat) (m : List HProp) (a : Option Addr) (c : Nat) (L : List En), k ≤ es.length ∧ i = .int .i64 k ∧ L = es.take k ∧ buildD es = goD L (es.drop k) ∧ (L.map En.path).Nodup ∧
    Knows (m ++ l) (reads (.slice a L.length c) L.length (L.flatMap enC)) ∧
    Ent (pt b4 (.cells #[.slice a L.length c] 78) :: pt b2 (.cells #[.slice none 0 0] 78) :: (m ++ l)) wr
set_option maxRecDepth 100000 in
set_option maxHeartbeats 8000000 in
attribute [-go_sem] Instr.loadAt in
theorem rBuild_any {es : List En} (hn : es.length ≤ 1000) (hb : ∀ x ∈ es, x.path.length ≤ 1000000 ∧ x.data.length ≤ 1000000) {ao : Option Addr} {c : Nat} {l : List HProp} {w : World} (hk : Knows l (reads (.slice ao es.length c) es.length (es.flatMap enC))) (hE : Ent l w) :
    Calls Tryd.prog 34 #[.slice ao es.length c] w (Ret (BdPost es l)) := by
  cases h64 : decide ((64 : Int) < (es.length : Int)) with
  | true =>
    have hT : buildD es = (6, []) := by rw [buildD, if_pos (by have := of_decide_eq_true h64; omega)]
    have HT := SL.hid hT
    clear hT
    go_enter Tryd.func34, Tryd.ntmps34
    go_wp2_with (first
      | go_skip
      | ((with_reducible (show Go.wpList _ _ _ (Go.Oper.mk _ (.alloc _) _ _ _ _ :: _) _ _)); refine wpl_alloc hE rfl rfl (by simp [go_sem]; rfl) ?_; clear hE; intro b2 w hE; simp only [Act.eval, Act.put, List.setIfInBounds_toArray, List.set_cons_zero, List.set_cons_succ, getD_lit, List.getD_cons_succ, List.getD_cons_zero, Value.cells] at hE)
      | ((with_reducible (show Go.wpList _ _ _ (Go.Oper.mk _ (.store 78 _ _) _ _ _ _ :: _) _ _)); (first | (refine wpl_storeW hE 0 rfl rfl rfl (xs := [.slice none 0 0]) rfl rfl Tryd.sizeOf78 rfl (by simp [Value.oneCell']) rfl ?_) | (refine wpl_storeW hE 1 rfl rfl rfl (xs := [.slice none 0 0]) rfl rfl Tryd.sizeOf78 rfl (by simp [Value.oneCell']) rfl ?_) | (refine wpl_storeW hE 2 rfl rfl rfl (xs := [.slice none 0 0]) rfl rfl Tryd.sizeOf78 rfl (by simp [Value.oneCell']) rfl ?_) | (refine wpl_storeW hE 3 rfl rfl rfl (xs := [.slice none 0 0]) rfl rfl Tryd.sizeOf78 rfl (by simp [Value.oneCell']) rfl ?_) | (refine wpl_storeW hE 4 rfl rfl rfl (xs := [.slice none 0 0]) rfl rfl Tryd.sizeOf78 rfl (by simp [Value.oneCell']) rfl ?_) | (refine wpl_storeW hE 5 rfl rfl rfl (xs := [.slice none 0 0]) rfl rfl Tryd.sizeOf78 rfl (by simp [Value.oneCell']) rfl ?_) | (refine wpl_storeW hE 6 rfl rfl rfl (xs := [.slice none 0 0]) rfl rfl Tryd.sizeOf78 rfl (by simp [Value.oneCell']) rfl ?_) | (refine wpl_storeW hE 7 rfl rfl rfl (xs := [.slice none 0 0]) rfl rfl Tryd.sizeOf78 rfl (by simp [Value.oneCell']) rfl ?_)); clear hE; intro w hE; simp only [List.set_cons_zero, List.set_cons_succ] at hE))
    refine bodyPost_ret (results_cell2 rfl hE 0 rfl rfl Tryd.isAgg78 Tryd.sizeOf78 rfl rfl) rfl ?_
    refine ⟨_, rfl, [_], none, 0, ?_, hE, ?_⟩
    · rw [HT.out]; rfl
    · rw [HT.out]; exact fun _ _ => reads_nil 0 0 rfl _
  | false =>
    have HT0 := SL.hid (show buildD es = goD [] es by rw [buildD, if_neg (by have := of_decide_eq_false h64; omega)])
    have Tok := SL.hid True.intro
    go_enter Tryd.func34, Tryd.ntmps34
    go_wp2_with (first
      | go_skip
      | ((with_reducible (show Go.wpList _ _ _ (Go.Oper.mk _ (.alloc _) _ _ _ _ :: _) _ _)); clear Tok; ((with_reducible (show Go.wpList _ _ _ (Go.Oper.mk _ (.alloc _) _ _ _ _ :: _) _ _)); refine wpl_alloc hE rfl rfl (by simp [go_sem]; rfl) ?_; clear hE; intro b2 w hE; simp only [Act.eval, Act.put, List.setIfInBounds_toArray, List.set_cons_zero, List.set_cons_succ, getD_lit, List.getD_cons_succ, List.getD_cons_zero, Value.cells] at hE))
      | ((with_reducible (show Go.wpList _ _ _ (Go.Oper.mk _ (.alloc _) _ _ _ _ :: _) _ _)); refine wpl_alloc hE rfl rfl (by simp [go_sem]; rfl) ?_; clear hE; intro b4 w hE; simp only [Act.eval, Act.put, List.setIfInBounds_toArray, List.set_cons_zero, List.set_cons_succ, getD_lit, List.getD_cons_succ, List.getD_cons_zero, Value.cells] at hE))
    clear h64
    go_loopw [5] (fun i wr => BdRel es b2 b4 l i wr) (fun i _ => es.length - (intOf i).toNat)
    case atStart => exact ⟨0, [], none, 0, [], Nat.zero_le _, rfl, rfl, HT0.out, by simp, fun _ _ => reads_nil 0 0 rfl _, hE⟩
    case round =>
      clear hE HT0
      obtain ⟨k, m, a, ca, L, hkn, rfl, hL, hB, hnd, hkL, hE⟩ := hrel
      by_cases hlt : k < es.length
      · obtain ⟨b, off, rfl, hz⟩ := en_at (hk _ hE.tail.tail.drop) hlt
        clear hz
        have f0 := SL.hid (show ∀ w, Ent l w → _ from fun w h => (load_en (hk w h) hlt).1)
        have hx := hb _ (List.getElem_mem hlt)
        have Htk := SL.hid (show es.take (k + 1) = L ++ [es[k]] from by rw [hL]; exact List.take_succ_eq_append_getElem hlt)
        have hdk : es.drop k = es[k] :: es.drop (k + 1) := List.drop_eq_getElem_cons hlt
        rw [hdk, goD] at hB
        have HB := SL.hid hB
        have hLl : L.length ≤ 1000 := by rw [hL, List.length_take]; omega
        have hLb : ∀ x ∈ L, x.path.length ≤ 1000000 := fun x hx => (hb x (List.mem_of_mem_take (hL ▸ hx))).1
        have HN := SL.hid (fun (h : addE L es[k] = 0) => add_nodup (x := es[k]) hnd h)
        have HAd := SL.hid (fun (F : List HProp) (w : World) (h : Ent (F ++ (m ++ l)) w) => add_any (xp := es[k].path) (xd := es[k].dir) (xb := es[k].data) hLl hLb hnd hx.1 hx.2 (hkL.append (m := F)) h)
        have HkL := SL.hid hkL
        clear hB hdk hx hL hLb hnd hkL
        generalize es[k] = x at *
        obtain ⟨xp, xd, xb⟩ := x
        simp only at f0 HAd
        have HAd2 := SL.hid (fun (F : List HProp) (w : World) (h : Ent (F ++ (m ++ l)) w) =>
          show Calls Tryd.prog 53 #[.agg #[.slice a L.length ca], .agg #[.string ⟨xp.toArray⟩, .bool xd, .string ⟨xb.toArray⟩]] w (Ret fun v w' => ∃ (m2 : List HProp) (a2 : Option Addr) (c2 : Nat), v = .tuple #[.agg #[.slice a2 (addL L ⟨xp, xd, xb⟩).length c2], .int .i64 (addE L ⟨xp, xd, xb⟩)] ∧ Ent (F ++ (m2 ++ (m ++ l))) w' ∧
            Knows (m2 ++ (m ++ l)) (reads (.slice a2 (addL L ⟨xp, xd, xb⟩).length c2) (addL L ⟨xp, xd, xb⟩).length ((addL L ⟨xp, xd, xb⟩).flatMap enC))) from by
            refine (HAd.out F w h).mono ?_
            rintro e w' ⟨v, rfl, m2, a2, c2, rfl, h1, h2⟩
            exact ⟨_, rfl, m2, a2, c2, rfl, h1.swap, h2 _ HkL.out⟩)
        have HL2 := SL.hid (show addE L ⟨xp, xd, xb⟩ = 0 → addL L ⟨xp, xd, xb⟩ = L ++ [⟨xp, xd, xb⟩] from fun h => by rw [addL, if_pos h])
        clear HAd
        generalize addE L ⟨xp, xd, xb⟩ = er at *
        generalize addL L ⟨xp, xd, xb⟩ = L2 at *
        go_wp2
        refine wp_region_held_drew (S := (fun w' => ((Instr.loadAt 78 (.pointer (some ⟨b4, 0, none⟩))).run Tryd.prog w' = .ok (.agg [.slice a L.length ca].toArray) w') ∧ ((Instr.loadAt 53 (.pointer (some ⟨b, off + k * 3, none⟩))).run Tryd.prog w' = .ok (.agg #[.string ⟨xp.toArray⟩, .bool xd, .string ⟨xb.toArray⟩]) w'))) (by kernel_rfl) ⟨(atWm hE.drew (by repeat (first | exact List.Mem.head _ | refine List.Mem.tail _ ?_)) Tryd.isAgg78 Tryd.sizeOf78 rfl), (f0.out _ (by first | exact (hE.drew.tail.tail).drop | exact hE.drew.tail.tail.tail.drop | exact hE.drew.tail.tail.drop.drop | exact hE.drew.tail.tail.tail.drop.drop))⟩ (fun hS => ?_)
        refine tL 0 ⟨some 19, .load 78 (.tmp 4), _, _, _, none⟩ hS ?_
        refine tV 1 ⟨some 20, .move (.tmp 0), _, _, _, none⟩ hS ?_
        refine tV 2 ⟨some 21, .move (.tmp 5), _, _, _, none⟩ hS ?_
        refine tV 3 ⟨some 22, .indexAddr 22 (.tmp 20) (.tmp 21), _, _, _, none⟩ hS ?_
        refine tL 4 ⟨some 23, .load 53 (.tmp 22), _, _, _, none⟩ hS ?_
        refine wpAnyH_ready (rs := [5, 9]) (by kernel_rfl) (by simp) ?_
        refine (AllReadyH.cons (o := ⟨some 24, .call { callee := .value (.func 53), args := #[.tmp 19, .tmp 23], argTypes := #[78, 53] }, _, _, _, none⟩) rfl (fun K hK => ?_) (AllReadyH.cons (o := ⟨some 6, .alloc 78, _, _, _, none⟩) rfl (fun K hK => ?_) AllReadyH.nil))
        focus
          (go_simp; (first | have H := HAd2.out [_, _, _] _ hAl | have H := HAd2.out [_, _] _ hE.drew); refine H.mono ?_; clear H; rintro e w3 ⟨v, rfl, m2, a2, c2, rfl, hA, hK2⟩; simp only [List.cons_append, List.nil_append] at hA)
          refine hK.out _ _ ⟨(atWm hA (by repeat (first | exact List.Mem.head _ | refine List.Mem.tail _ ?_)) Tryd.isAgg78 Tryd.sizeOf78 rfl), (f0.out _ (by first | exact (hA.tail.tail).drop | exact hA.tail.tail.tail.drop | exact hA.tail.tail.drop.drop | exact hA.tail.tail.tail.drop.drop))⟩ (fun hS => ?_)
          clear hK K
          try simp only [Act.put, sb, s0, sz]
          refine tV 6 ⟨some 18, .move (.tmp 24), _, _, _, none⟩ hS ?_
          refine tV 7 ⟨some 25, .extract (.tmp 18) 0, _, _, _, none⟩ hS ?_
          refine tV 8 ⟨some 26, .extract (.tmp 18) 1, _, _, _, none⟩ hS ?_
          refine wpAnyH_ready (rs := [9]) (by kernel_rfl) (by simp) ?_
          refine (AllReadyH.cons (o := ⟨some 6, .alloc 78, _, _, _, none⟩) rfl (fun K hK => ?_) AllReadyH.nil)
          (go_simp; (first | have hAl := hA.alloc (.cells #[.slice none 0 0] 78) | have hAl := hE.drew.alloc (.cells #[.slice none 0 0] 78)))
          refine hK.out _ _ ⟨(atWm hAl (by repeat (first | exact List.Mem.head _ | refine List.Mem.tail _ ?_)) Tryd.isAgg78 Tryd.sizeOf78 rfl), (f0.out _ (by first | exact (hAl.tail.tail).drop | exact hAl.tail.tail.tail.drop | exact hAl.tail.tail.drop.drop | exact hAl.tail.tail.tail.drop.drop))⟩ (fun hS => ?_)
          clear hK K
          try simp only [Act.put, sb, s0, sz]
          refine wpAnyH_ready (rs := [10]) (by kernel_rfl) (by simp) ?_
          refine (AllReadyH.cons (o := ⟨none, .store 78 (.tmp 6) (.tmp 25), _, _, _, none⟩) rfl (fun K hK => ?_) AllReadyH.nil)
          ((first | refine step_storeW hAl 0 rfl (by rfl) (by rfl) (by rfl) (xs := [.slice a2 L2.length c2]) (by rfl) Tryd.sizeOf78 rfl (by simp [Value.oneCell']) rfl ?_ | refine step_storeW hA 0 rfl (by rfl) (by rfl) (by rfl) (xs := [.slice a2 L2.length c2]) (by rfl) Tryd.sizeOf78 rfl (by simp [Value.oneCell']) rfl ?_); intro w7 hEs; simp only [List.set_cons_zero, List.set_cons_succ] at hEs)
          refine hK.out _ _ ⟨(atWm hEs (by repeat (first | exact List.Mem.head _ | refine List.Mem.tail _ ?_)) Tryd.isAgg78 Tryd.sizeOf78 rfl), (f0.out _ (by first | exact (hEs.tail.tail).drop | exact hEs.tail.tail.tail.drop | exact hEs.tail.tail.drop.drop | exact hEs.tail.tail.tail.drop.drop))⟩ (fun hS => ?_)
          clear hK K
          try simp only [Act.put, sb, s0, sz]
          refine tV 11 ⟨some 7, .assign (.tmp 26), _, _, _, none⟩ hS ?_
          refine wpAnyH_done (by kernel_rfl) ?_ _
        rotate_right
        focus
          (go_simp; (first | have hAl := hA.alloc (.cells #[.slice none 0 0] 78) | have hAl := hE.drew.alloc (.cells #[.slice none 0 0] 78)))
          refine hK.out _ _ ⟨(atWm hAl (by repeat (first | exact List.Mem.head _ | refine List.Mem.tail _ ?_)) Tryd.isAgg78 Tryd.sizeOf78 rfl), (f0.out _ (by first | exact (hAl.tail.tail).drop | exact hAl.tail.tail.tail.drop | exact hAl.tail.tail.drop.drop | exact hAl.tail.tail.tail.drop.drop))⟩ (fun hS => ?_)
          clear hK K
          try simp only [Act.put, sb, s0, sz]
          refine wpAnyH_ready (rs := [5]) (by kernel_rfl) (by simp) ?_
          refine (AllReadyH.cons (o := ⟨some 24, .call { callee := .value (.func 53), args := #[.tmp 19, .tmp 23], argTypes := #[78, 53] }, _, _, _, none⟩) rfl (fun K hK => ?_) AllReadyH.nil)
          (go_simp; (first | have H := HAd2.out [_, _, _] _ hAl | have H := HAd2.out [_, _] _ hE.drew); refine H.mono ?_; clear H; rintro e w3 ⟨v, rfl, m2, a2, c2, rfl, hA, hK2⟩; simp only [List.cons_append, List.nil_append] at hA)
          refine hK.out _ _ ⟨(atWm hA (by repeat (first | exact List.Mem.head _ | refine List.Mem.tail _ ?_)) Tryd.isAgg78 Tryd.sizeOf78 rfl), (f0.out _ (by first | exact (hA.tail.tail).drop | exact hA.tail.tail.tail.drop | exact hA.tail.tail.drop.drop | exact hA.tail.tail.tail.drop.drop))⟩ (fun hS => ?_)
          clear hK K
          try simp only [Act.put, sb, s0, sz]
          refine tV 6 ⟨some 18, .move (.tmp 24), _, _, _, none⟩ hS ?_
          refine tV 7 ⟨some 25, .extract (.tmp 18) 0, _, _, _, none⟩ hS ?_
          refine tV 8 ⟨some 26, .extract (.tmp 18) 1, _, _, _, none⟩ hS ?_
          refine wpAnyH_ready (rs := [10]) (by kernel_rfl) (by simp) ?_
          refine (AllReadyH.cons (o := ⟨none, .store 78 (.tmp 6) (.tmp 25), _, _, _, none⟩) rfl (fun K hK => ?_) AllReadyH.nil)
          ((first | refine step_storeW hAl 0 rfl (by rfl) (by rfl) (by rfl) (xs := [.slice a2 L2.length c2]) (by rfl) Tryd.sizeOf78 rfl (by simp [Value.oneCell']) rfl ?_ | refine step_storeW hA 0 rfl (by rfl) (by rfl) (by rfl) (xs := [.slice a2 L2.length c2]) (by rfl) Tryd.sizeOf78 rfl (by simp [Value.oneCell']) rfl ?_); intro w7 hEs; simp only [List.set_cons_zero, List.set_cons_succ] at hEs)
          refine hK.out _ _ ⟨(atWm hEs (by repeat (first | exact List.Mem.head _ | refine List.Mem.tail _ ?_)) Tryd.isAgg78 Tryd.sizeOf78 rfl), (f0.out _ (by first | exact (hEs.tail.tail).drop | exact hEs.tail.tail.tail.drop | exact hEs.tail.tail.drop.drop | exact hEs.tail.tail.tail.drop.drop))⟩ (fun hS => ?_)
          clear hK K
          try simp only [Act.put, sb, s0, sz]
          refine tV 11 ⟨some 7, .assign (.tmp 26), _, _, _, none⟩ hS ?_
          refine wpAnyH_done (by kernel_rfl) ?_ _
        all_goals
          first
            | (replace hE : Ent (pt wr.heap.size (.cells #[.slice a2 L2.length c2] 78) :: pt b4 (.cells #[.slice a L.length ca] 78) :: pt b2 (.cells #[.slice none 0 0] 78) :: (m2 ++ (m ++ l))) w7 := hEs; generalize wr.heap.size = b6 at *)
            | (replace hE : Ent (pt w3.heap.size (.cells #[.slice a2 L2.length c2] 78) :: pt b4 (.cells #[.slice a L.length ca] 78) :: pt b2 (.cells #[.slice none 0 0] 78) :: (m2 ++ (m ++ l))) w7 := hEs; generalize w3.heap.size = b6 at *)
          clear hEs hS
          try clear hAl
          try clear hA
          cases he : (er != 0) with
          | true =>
            have HT := SL.hid (show buildD es = (er, []) from HB.out.trans (if_neg (by simpa using he)))
            clear HB HN HL2 HAd2 Htk
            go_wp2_with (first
              | go_skip
              | ((with_reducible (show Go.wpList _ _ _ (Go.Oper.mk _ (.store 78 _ _) _ _ _ _ :: _) _ _)); (first | (refine wpl_storeW hE 0 rfl rfl rfl (xs := [.slice none 0 0]) rfl rfl Tryd.sizeOf78 rfl (by simp [Value.oneCell']) rfl ?_) | (refine wpl_storeW hE 1 rfl rfl rfl (xs := [.slice none 0 0]) rfl rfl Tryd.sizeOf78 rfl (by simp [Value.oneCell']) rfl ?_) | (refine wpl_storeW hE 2 rfl rfl rfl (xs := [.slice none 0 0]) rfl rfl Tryd.sizeOf78 rfl (by simp [Value.oneCell']) rfl ?_) | (refine wpl_storeW hE 3 rfl rfl rfl (xs := [.slice none 0 0]) rfl rfl Tryd.sizeOf78 rfl (by simp [Value.oneCell']) rfl ?_) | (refine wpl_storeW hE 4 rfl rfl rfl (xs := [.slice none 0 0]) rfl rfl Tryd.sizeOf78 rfl (by simp [Value.oneCell']) rfl ?_) | (refine wpl_storeW hE 5 rfl rfl rfl (xs := [.slice none 0 0]) rfl rfl Tryd.sizeOf78 rfl (by simp [Value.oneCell']) rfl ?_) | (refine wpl_storeW hE 6 rfl rfl rfl (xs := [.slice none 0 0]) rfl rfl Tryd.sizeOf78 rfl (by simp [Value.oneCell']) rfl ?_) | (refine wpl_storeW hE 7 rfl rfl rfl (xs := [.slice none 0 0]) rfl rfl Tryd.sizeOf78 rfl (by simp [Value.oneCell']) rfl ?_)); clear hE; intro w hE; simp only [List.set_cons_zero, List.set_cons_succ] at hE))
            refine bodyPost_ret (results_cell2 rfl hE 2 rfl rfl Tryd.isAgg78 Tryd.sizeOf78 rfl rfl) rfl ?_
            refine ⟨_, rfl, pt b6 (.cells #[.slice a2 L2.length c2] 78) :: pt b4 (.cells #[.slice a L.length ca] 78) :: pt b2 (.cells #[.slice none 0 0] 78) :: (m2 ++ m), none, 0, ?_, ?_, ?_⟩
            · rw [HT.out]; rfl
            · simp only [List.cons_append, List.append_assoc]; exact hE
            · rw [HT.out]; exact fun _ _ => reads_nil 0 0 rfl _
          | false =>
            obtain rfl : er = 0 := by simpa using he
            obtain rfl := HL2.out rfl
            have HT := SL.hid (HB.out.trans (if_pos rfl))
            have HN2 := SL.hid (HN.out rfl)
            clear HB HN HL2 HAd2 he
            generalize hL3 : L ++ [(⟨xp, xd, xb⟩ : En)] = L3 at *
            have HL3 := SL.hid hL3
            clear hL3
            go_wp2_with (first
              | go_skip
              | ((with_reducible (show Go.wpList _ _ _ (Go.Oper.mk _ (.load 78 _) _ _ _ _ :: _) _ _)); (first | (refine wpl_loadW hE 0 rfl rfl rfl rfl Tryd.isAgg78 Tryd.sizeOf78 rfl ?_) | (refine wpl_loadW hE 1 rfl rfl rfl rfl Tryd.isAgg78 Tryd.sizeOf78 rfl ?_) | (refine wpl_loadW hE 2 rfl rfl rfl rfl Tryd.isAgg78 Tryd.sizeOf78 rfl ?_) | (refine wpl_loadW hE 3 rfl rfl rfl rfl Tryd.isAgg78 Tryd.sizeOf78 rfl ?_) | (refine wpl_loadW hE 4 rfl rfl rfl rfl Tryd.isAgg78 Tryd.sizeOf78 rfl ?_) | (refine wpl_loadW hE 5 rfl rfl rfl rfl Tryd.isAgg78 Tryd.sizeOf78 rfl ?_) | (refine wpl_loadW hE 6 rfl rfl rfl rfl Tryd.isAgg78 Tryd.sizeOf78 rfl ?_) | (refine wpl_loadW hE 7 rfl rfl rfl rfl Tryd.isAgg78 Tryd.sizeOf78 rfl ?_)))
              | ((with_reducible (show Go.wpList _ _ _ (Go.Oper.mk _ (.store 78 _ _) _ _ _ _ :: _) _ _)); (first | (refine wpl_storeW hE 0 rfl rfl rfl (xs := [.slice a2 L3.length c2]) rfl rfl Tryd.sizeOf78 rfl (by simp [Value.oneCell']) rfl ?_) | (refine wpl_storeW hE 1 rfl rfl rfl (xs := [.slice a2 L3.length c2]) rfl rfl Tryd.sizeOf78 rfl (by simp [Value.oneCell']) rfl ?_) | (refine wpl_storeW hE 2 rfl rfl rfl (xs := [.slice a2 L3.length c2]) rfl rfl Tryd.sizeOf78 rfl (by simp [Value.oneCell']) rfl ?_) | (refine wpl_storeW hE 3 rfl rfl rfl (xs := [.slice a2 L3.length c2]) rfl rfl Tryd.sizeOf78 rfl (by simp [Value.oneCell']) rfl ?_) | (refine wpl_storeW hE 4 rfl rfl rfl (xs := [.slice a2 L3.length c2]) rfl rfl Tryd.sizeOf78 rfl (by simp [Value.oneCell']) rfl ?_) | (refine wpl_storeW hE 5 rfl rfl rfl (xs := [.slice a2 L3.length c2]) rfl rfl Tryd.sizeOf78 rfl (by simp [Value.oneCell']) rfl ?_) | (refine wpl_storeW hE 6 rfl rfl rfl (xs := [.slice a2 L3.length c2]) rfl rfl Tryd.sizeOf78 rfl (by simp [Value.oneCell']) rfl ?_) | (refine wpl_storeW hE 7 rfl rfl rfl (xs := [.slice a2 L3.length c2]) rfl rfl Tryd.sizeOf78 rfl (by simp [Value.oneCell']) rfl ?_)); clear hE; intro w hE; simp only [List.set_cons_zero, List.set_cons_succ] at hE))
            go_roundw
            case rel =>
              refine ⟨k + 1, m2 ++ m, a2, c2, L3, hlt, by first | rfl | simp, by rw [Htk.out], HT.out, HN2.out, ?_, ?_⟩
              · rw [List.append_assoc]; exact hK2
              · rw [List.append_assoc]; exact hE.tail
            case measure => simp [intOf] <;> omega
      · obtain rfl : k = es.length := by omega
        rw [List.drop_length] at hB
        have HT := SL.hid (show buildD es = (0, L) from hB)
        clear hB hL
        go_wp2_with (first
          | go_skip
          | ((with_reducible (show Go.wpList _ _ _ (Go.Oper.mk _ (.load 78 _) _ _ _ _ :: _) _ _)); (first | (refine wpl_loadW hE 0 rfl rfl rfl rfl Tryd.isAgg78 Tryd.sizeOf78 rfl ?_) | (refine wpl_loadW hE 1 rfl rfl rfl rfl Tryd.isAgg78 Tryd.sizeOf78 rfl ?_) | (refine wpl_loadW hE 2 rfl rfl rfl rfl Tryd.isAgg78 Tryd.sizeOf78 rfl ?_) | (refine wpl_loadW hE 3 rfl rfl rfl rfl Tryd.isAgg78 Tryd.sizeOf78 rfl ?_) | (refine wpl_loadW hE 4 rfl rfl rfl rfl Tryd.isAgg78 Tryd.sizeOf78 rfl ?_) | (refine wpl_loadW hE 5 rfl rfl rfl rfl Tryd.isAgg78 Tryd.sizeOf78 rfl ?_) | (refine wpl_loadW hE 6 rfl rfl rfl rfl Tryd.isAgg78 Tryd.sizeOf78 rfl ?_) | (refine wpl_loadW hE 7 rfl rfl rfl rfl Tryd.isAgg78 Tryd.sizeOf78 rfl ?_)))
          | ((with_reducible (show Go.wpList _ _ _ (Go.Oper.mk _ (.store 78 _ _) _ _ _ _ :: _) _ _)); (first | (refine wpl_storeW hE 0 rfl rfl rfl (xs := [.slice a L.length ca]) rfl rfl Tryd.sizeOf78 rfl (by simp [Value.oneCell']) rfl ?_) | (refine wpl_storeW hE 1 rfl rfl rfl (xs := [.slice a L.length ca]) rfl rfl Tryd.sizeOf78 rfl (by simp [Value.oneCell']) rfl ?_) | (refine wpl_storeW hE 2 rfl rfl rfl (xs := [.slice a L.length ca]) rfl rfl Tryd.sizeOf78 rfl (by simp [Value.oneCell']) rfl ?_) | (refine wpl_storeW hE 3 rfl rfl rfl (xs := [.slice a L.length ca]) rfl rfl Tryd.sizeOf78 rfl (by simp [Value.oneCell']) rfl ?_) | (refine wpl_storeW hE 4 rfl rfl rfl (xs := [.slice a L.length ca]) rfl rfl Tryd.sizeOf78 rfl (by simp [Value.oneCell']) rfl ?_) | (refine wpl_storeW hE 5 rfl rfl rfl (xs := [.slice a L.length ca]) rfl rfl Tryd.sizeOf78 rfl (by simp [Value.oneCell']) rfl ?_) | (refine wpl_storeW hE 6 rfl rfl rfl (xs := [.slice a L.length ca]) rfl rfl Tryd.sizeOf78 rfl (by simp [Value.oneCell']) rfl ?_) | (refine wpl_storeW hE 7 rfl rfl rfl (xs := [.slice a L.length ca]) rfl rfl Tryd.sizeOf78 rfl (by simp [Value.oneCell']) rfl ?_)); clear hE; intro w hE; simp only [List.set_cons_zero, List.set_cons_succ] at hE))
        refine bodyPost_ret (results_cell2 rfl hE 1 rfl rfl Tryd.isAgg78 Tryd.sizeOf78 rfl rfl) rfl ?_
        refine ⟨_, rfl, pt b4 (.cells #[.slice a L.length ca] 78) :: pt b2 (.cells #[.slice a L.length ca] 78) :: m, a, ca, ?_, ?_, ?_⟩
        · rw [HT.out]; rfl
        · exact hE
        · rw [HT.out]; exact hkL.suf (List.suffix_append [_, _] _)
end Go.Proofs.YtljfkejkohmimaaDoor
namespace Go.Proofs.YtljfkejkohmimaaDoor
open Go.RowKit Go.SL

/-- may this one be picked as number k? -/
def Cand (S : List En) (k : Nat) (x : En) : Prop := ∀ h : 0 < k ∧ k - 1 < S.length, Op.bytesLess (S[k - 1]'h.2).path x.path = true
theorem rising_at {S : List En} (hr : Rising (S.map En.path)) {i j : Nat} (hij : i < j) (hj : j < S.length) : Op.bytesLess (S[i]'(by omega)).path S[j].path = true := by
  have := hr.of hij (by simpa using hj)
  simpa using this
theorem cand_iff {S : List En} (hr : Rising (S.map En.path)) {k m : Nat} (hk : k ≤ S.length) (hm : m < S.length) : Cand S k S[m] ↔ k ≤ m := by
  constructor
  · intro h
    rcases Nat.lt_or_ge m k with h1 | h1
    · have h2 := h ⟨by omega, by omega⟩
      rcases Nat.lt_or_eq_of_le (show m ≤ k - 1 by omega) with h3 | h3
      · rw [bl_asymm (rising_at hr h3 (by omega))] at h2; cases h2
      · subst h3
        rw [bl_irrefl] at h2; cases h2
    · exact h1
  · intro h h1
    exact rising_at hr (by omega) hm
theorem best_at {l S : List En} (hp : l.Perm S) (hr : Rising (S.map En.path)) {k b : Nat} (hk : k < S.length) (hb : b < l.length) (hc : Cand S k l[b])
    (hmin : ∀ (j : Nat) (h : j < l.length), Cand S k l[j] → Op.bytesLess l[j].path l[b].path = false) : l[b] = S[k] := by
  obtain ⟨m, hm, e⟩ := List.getElem_of_mem (hp.mem_iff.1 (List.getElem_mem hb))
  obtain ⟨j, hj, e2⟩ := List.getElem_of_mem (hp.mem_iff.2 (List.getElem_mem hk))
  rw [← e] at hc
  have h1 := (cand_iff hr (by omega) hm).1 hc
  have h2 := hmin j hj (by rw [e2]; exact (cand_iff hr (by omega) hk).2 (Nat.le_refl _))
  rw [e2, ← e] at h2
  rcases Nat.lt_or_eq_of_le h1 with h3 | h3
  · rw [rising_at hr h3 hm] at h2; cases h2
  · subst h3; exact e.symm
theorem some_cand {l S : List En} (hp : l.Perm S) (hr : Rising (S.map En.path)) {k : Nat} (hk : k < S.length) : ∃ (j : Nat) (h : j < l.length), Cand S k l[j] := by
  obtain ⟨j, hj, e2⟩ := List.getElem_of_mem (hp.mem_iff.2 (List.getElem_mem hk))
  exact ⟨j, hj, by rw [e2]; exact (cand_iff hr (by omega) hk).2 (Nat.le_refl _)⟩
end Go.Proofs.YtljfkejkohmimaaDoor
