/-
  The document's tree: one more entry. Printed by gen_ta4.py.
-/
import Derived.Test.YtjmllpgmbaoebaaDoorManQF4
namespace Go.SL
variable {P : Program} {w : World} {l : List HProp} {ops : Array Oper} {o : Oper} {a : Act} {K : Act → World → Prop} {Q : Exit → Act → World → Prop} {E : Prop}
theorem step_appendNil {e : TypeId} {size bytes : Nat} {t : TypeId} (hE : Ent l w) {s y : Operand} (ho : o.op = .call { callee := .builtin .append, args := #[s, y], argTypes := #[t, t] }) (hw : Region.wanted o (yielded ops a.tmps) = true)
    (hs : a.eval s = .slice none 0 0) {x : Value} (hy : a.eval y = x) (ht : P.underlying t = some (.slice e)) (hI : elemInfo P e = some (some size, size, bytes)) (hsz : 0 < size)
    {m : Nat} {news : List Value} (hx : reads x m news w) (hl : news.length = m * size) (h1 : ∀ u ∈ news, u.oneCell' = true) (hbytes : m * bytes ≤ 140737488355328) (h63 : m ≤ 140737488355328)
    (h : ∀ ao' c' w', Ent (row e size (.slice ao' m c') m news :: l) w' → K (a.put o.dst (.slice ao' m c')) w') : if Region.wanted o (yielded ops a.tmps) = true then Oper.wp P o a w K Q else E := by
  refine step_appendG (hE.nil e size) 0 rfl ho hw hs hy ht hI hsz hx hl h1 (by simpa using hbytes) (by simpa using h63) (fun ao' c' w' h' => ?_)
  rw [Nat.zero_add, List.nil_append, List.set_cons_zero] at h'
  rw [Nat.zero_add]
  exact h ao' c' w' h'
end Go.SL
namespace Go.Proofs.YtjmllpgmbaoebaaDoor
open Go.RowKit Go.SL

theorem flat_one (L : List En) : ∀ u ∈ L.flatMap enC, u.oneCell' = true := by
  intro u hu
  obtain ⟨x, _, h⟩ := List.mem_flatMap.1 hu
  exact enC_one x u h
def addL (L : List En) (x : En) : List En := if addE L x = 0 then L ++ [x] else L
def AddPost (L : List En) (x : En) (ao : Option Addr) (c0 : Nat) (l : List HProp) (v : Value) (w' : World) : Prop :=
  ∃ (m : List HProp) (a : Option Addr) (c : Nat), v = .tuple #[.agg #[.slice a (addL L x).length c], .int .i64 (addE L x)] ∧ Ent (m ++ l) w' ∧
    ∀ lk, Knows lk (reads (.slice ao L.length c0) L.length (L.flatMap enC)) → Knows (m ++ lk) (reads (.slice a (addL L x).length c) (addL L x).length ((addL L x).flatMap enC))
theorem AddPost.bad {L : List En} {x : En} {l : List HProp} {er : Int} (h : addE L x = er ∧ er ≠ 0) {a : Option Addr} {c : Nat} {m : List HProp} {w : World} (hE : Ent (m ++ l) w) :
    AddPost L x a c l (.tuple #[.agg #[.slice a L.length c], .int .i64 er]) w := by
  obtain ⟨rfl, h0⟩ := h
  have e : addL L x = L := by rw [addL, if_neg h0]
  refine ⟨m, a, c, by rw [e], hE, fun lk hk => ?_⟩
  rw [e]
  exact hk.append
theorem AddPost.good {L : List En} {x : En} {l : List HProp} (h : addE L x = 0) {ao : Option Addr} {c0 : Nat} {a : Option Addr} {c : Nat} {m : List HProp} {w : World} (hk : ∀ lk, Knows (m ++ lk) (reads (.slice a (L.length + 1) c) (L.length + 1) (L.flatMap enC ++ enC x))) (hE : Ent (m ++ l) w) :
    AddPost L x ao c0 l (.tuple #[.agg #[.slice a (L.length + 1) c], .int .i64 0]) w := by
  have e : addL L x = L ++ [x] := by rw [addL, if_pos h]
  have e1 : (L ++ [x]).length = L.length + 1 := by simp
  have e2 : (L ++ [x]).flatMap enC = L.flatMap enC ++ enC x := by simp
  refine ⟨m, a, c, by rw [e, e1, h], hE, fun lk _ => ?_⟩
  rw [e, e1, e2]
  exact hk lk

set_option maxRecDepth 100000 in
set_option maxHeartbeats 16000000 in
attribute [-go_sem] Instr.loadAt in
theorem add_any {L : List En} (hL : L.length ≤ 1000) (hb : ∀ x ∈ L, x.path.length ≤ 1000000) (hn : (L.map En.path).Nodup) {xp : List UInt8} {xd : Bool} {xb : List UInt8} (hxp : xp.length ≤ 1000000) (hxb : xb.length ≤ 1000000) {ao : Option Addr} {c : Nat} {l : List HProp} {w : World} (hk : Knows l (reads (.slice ao L.length c) L.length (L.flatMap enC))) (hE : Ent l w) :
    Calls Tryd.prog 30 #[.agg #[.slice ao L.length c], .agg #[.string ⟨xp.toArray⟩, .bool xd, .string ⟨xb.toArray⟩]] w (Ret (AddPost L ⟨xp, xd, xb⟩ ao c l)) := by
  have HS := SL.hid (fun (L' : List HProp) (w : World) (h : Ent L' w) => rSplit_any hxp h)
  have HAt := SL.hid (fun (L' : List HProp) (w : World) (hs : l <:+ L') (h : Ent L' w) => at_any (by omega) xp (hk.suf hs) h)
  have HPa := SL.hid (fun (L' : List HProp) (w : World) (h : Ent L' w) => Parent_any hxp h)
  have HDi := SL.hid (fun (L' : List HProp) (w : World) (hs : l <:+ L') (h : Ent L' w) => dir_any (by omega) hn (parP xp) (hk.suf hs) h)
  have HKi := SL.hid (fun (L' : List HProp) (w : World) (hs : l <:+ L') (h : Ent L' w) => kids_any (by omega) hb (parP xp) (hk.suf hs) h)
  have HE := SL.hid (show addE L ⟨xp, xd, xb⟩ = if splitE xp ≠ 0 then splitE xp else if xp = [] ∨ (xd = true ∧ xb ≠ []) ∨ hasD L xp = true ∨ dirD L (parP xp) = false then 8 else if 8192 < xb.length ∨ 6 ≤ (kidsD L (parP xp)).length then 6 else 0 from rfl)
  rw [← atD_has, ← kidsI_len] at HE
  have hle := kidsI_le L (parP xp)
  generalize parP xp = pp at *
  generalize kidsI L pp = ki at *
  generalize dirD L pp = dd at *
  generalize atD L xp = ai at *
  generalize splitE xp = se at *
  generalize splitL xp = sl at *
  cases e0 : (se != 0) with
  | true =>
    have HB := SL.hid (show addE L ⟨xp, xd, xb⟩ = se ∧ se ≠ 0 from by
      have h : se ≠ 0 := by simpa using e0
      exact ⟨by rw [HE.out, if_pos h], h⟩)
    clear HE
    have Tok := SL.hid True.intro
    go_enter Tryd.func30, Tryd.ntmps30
    go_wp2_with (first
      | go_skip
      | ((with_reducible (show Go.wpList _ _ _ (Go.Oper.mk _ (.box _ _) _ _ _ _ :: _) _ _)); clear Tok; refine wpl_box hE rfl rfl rfl ?_; clear hE; intro b2 w hE; simp only [Act.eval, Act.put, List.setIfInBounds_toArray, List.set_cons_zero, List.set_cons_succ, getD_lit, List.getD_cons_succ, List.getD_cons_zero, Value.cells] at hE)
      | ((with_reducible (show Go.wpList _ _ _ (Go.Oper.mk _ (.box _ _) _ _ _ _ :: _) _ _)); refine wpl_box hE rfl rfl rfl ?_; clear hE; intro b3 w hE; simp only [Act.eval, Act.put, List.setIfInBounds_toArray, List.set_cons_zero, List.set_cons_succ, getD_lit, List.getD_cons_succ, List.getD_cons_zero, Value.cells] at hE)
      | ((with_reducible (show Go.wpList _ _ _ (Go.Oper.mk _ (.alloc _) _ _ _ _ :: _) _ _)); refine wpl_alloc hE rfl rfl (by simp [go_sem]; rfl) ?_; clear hE; intro b4 w hE; simp only [Act.eval, Act.put, List.setIfInBounds_toArray, List.set_cons_zero, List.set_cons_succ, getD_lit, List.getD_cons_succ, List.getD_cons_zero, Value.cells] at hE)
      | (go_at_call 48; refine (HS.out _ _ hE).mono ?_; clear hE; rintro e w3 ⟨v, rfl, an, cn, rfl, hE⟩; replace hE := hE.tail)
      | ((with_reducible (show Go.wpList _ _ _ (Go.Oper.mk _ (.load 33 _) _ _ _ _ :: _) _ _)); (first | (refine wpl_loadW hE 0 rfl rfl rfl rfl Tryd.isAgg33 Tryd.sizeOf33 rfl ?_) | (refine wpl_loadW hE 1 rfl rfl rfl rfl Tryd.isAgg33 Tryd.sizeOf33 rfl ?_) | (refine wpl_loadW hE 2 rfl rfl rfl rfl Tryd.isAgg33 Tryd.sizeOf33 rfl ?_) | (refine wpl_loadW hE 3 rfl rfl rfl rfl Tryd.isAgg33 Tryd.sizeOf33 rfl ?_) | (refine wpl_loadW hE 4 rfl rfl rfl rfl Tryd.isAgg33 Tryd.sizeOf33 rfl ?_) | (refine wpl_loadW hE 5 rfl rfl rfl rfl Tryd.isAgg33 Tryd.sizeOf33 rfl ?_) | (refine wpl_loadW hE 6 rfl rfl rfl rfl Tryd.isAgg33 Tryd.sizeOf33 rfl ?_) | (refine wpl_loadW hE 7 rfl rfl rfl rfl Tryd.isAgg33 Tryd.sizeOf33 rfl ?_)))
      | ((with_reducible (show Go.wpList _ _ _ (Go.Oper.mk _ (.store 33 _ _) _ _ _ _ :: _) _ _)); (first | (refine wpl_storeW hE 0 rfl rfl rfl (xs := [.slice ao L.length c]) rfl rfl Tryd.sizeOf33 rfl (by simp [Value.oneCell']) rfl ?_) | (refine wpl_storeW hE 1 rfl rfl rfl (xs := [.slice ao L.length c]) rfl rfl Tryd.sizeOf33 rfl (by simp [Value.oneCell']) rfl ?_) | (refine wpl_storeW hE 2 rfl rfl rfl (xs := [.slice ao L.length c]) rfl rfl Tryd.sizeOf33 rfl (by simp [Value.oneCell']) rfl ?_) | (refine wpl_storeW hE 3 rfl rfl rfl (xs := [.slice ao L.length c]) rfl rfl Tryd.sizeOf33 rfl (by simp [Value.oneCell']) rfl ?_) | (refine wpl_storeW hE 4 rfl rfl rfl (xs := [.slice ao L.length c]) rfl rfl Tryd.sizeOf33 rfl (by simp [Value.oneCell']) rfl ?_) | (refine wpl_storeW hE 5 rfl rfl rfl (xs := [.slice ao L.length c]) rfl rfl Tryd.sizeOf33 rfl (by simp [Value.oneCell']) rfl ?_) | (refine wpl_storeW hE 6 rfl rfl rfl (xs := [.slice ao L.length c]) rfl rfl Tryd.sizeOf33 rfl (by simp [Value.oneCell']) rfl ?_) | (refine wpl_storeW hE 7 rfl rfl rfl (xs := [.slice ao L.length c]) rfl rfl Tryd.sizeOf33 rfl (by simp [Value.oneCell']) rfl ?_)); clear hE; intro w hE; simp only [List.set_cons_zero, List.set_cons_succ] at hE)
      | ((with_reducible (show Go.wpList _ _ _ (Go.Oper.mk _ (.load _ _) _ _ _ _ :: _) _ _)); (first | (refine wpl_load1 hE 0 rfl rfl rfl rfl (by simp [go_sem]) rfl ?_) | (refine wpl_load1 hE 1 rfl rfl rfl rfl (by simp [go_sem]) rfl ?_) | (refine wpl_load1 hE 2 rfl rfl rfl rfl (by simp [go_sem]) rfl ?_) | (refine wpl_load1 hE 3 rfl rfl rfl rfl (by simp [go_sem]) rfl ?_) | (refine wpl_load1 hE 4 rfl rfl rfl rfl (by simp [go_sem]) rfl ?_) | (refine wpl_load1 hE 5 rfl rfl rfl rfl (by simp [go_sem]) rfl ?_) | (refine wpl_load1 hE 6 rfl rfl rfl rfl (by simp [go_sem]) rfl ?_) | (refine wpl_load1 hE 7 rfl rfl rfl rfl (by simp [go_sem]) rfl ?_))))
    refine bodyPost_ret (results_cell2 rfl hE 0 rfl rfl Tryd.isAgg33 Tryd.sizeOf33 rfl rfl) rfl ?_
    exact ⟨_, rfl, AddPost.bad HB.out (m := [_, _, _]) hE⟩
  | false =>
    obtain rfl : se = 0 := by simpa using e0
    have HE2 := SL.hid (HE.out.trans (if_neg (by simp)))
    clear HE e0
    have hmA := mkb xp []
    have hmB := mkb xb []
    have hmB2 : ((⟨xb.toArray⟩ : ByteArray) != ⟨#[]⟩) = !(xb == []) := by rw [bne, mkb]
    have Tok := SL.hid True.intro
    go_enter Tryd.func30, Tryd.ntmps30
    go_wp2_with (first
      | go_skip
      | ((with_reducible (show Go.wpList _ _ _ (Go.Oper.mk _ (.box _ _) _ _ _ _ :: _) _ _)); clear Tok; refine wpl_box hE rfl rfl rfl ?_; clear hE; intro b2 w hE; simp only [Act.eval, Act.put, List.setIfInBounds_toArray, List.set_cons_zero, List.set_cons_succ, getD_lit, List.getD_cons_succ, List.getD_cons_zero, Value.cells] at hE)
      | ((with_reducible (show Go.wpList _ _ _ (Go.Oper.mk _ (.box _ _) _ _ _ _ :: _) _ _)); refine wpl_box hE rfl rfl rfl ?_; clear hE; intro b3 w hE; simp only [Act.eval, Act.put, List.setIfInBounds_toArray, List.set_cons_zero, List.set_cons_succ, getD_lit, List.getD_cons_succ, List.getD_cons_zero, Value.cells] at hE)
      | ((with_reducible (show Go.wpList _ _ _ (Go.Oper.mk _ (.alloc _) _ _ _ _ :: _) _ _)); refine wpl_alloc hE rfl rfl (by simp [go_sem]; rfl) ?_; clear hE; intro b4 w hE; simp only [Act.eval, Act.put, List.setIfInBounds_toArray, List.set_cons_zero, List.set_cons_succ, getD_lit, List.getD_cons_succ, List.getD_cons_zero, Value.cells] at hE)
      | (go_at_call 48; refine (HS.out _ _ hE).mono ?_; clear hE; rintro e w3 ⟨v, rfl, an, cn, rfl, hE⟩; replace hE := hE.tail)
      | ((with_reducible (show Go.wpList _ _ _ (Go.Oper.mk _ (.load 33 _) _ _ _ _ :: _) _ _)); (first | (refine wpl_loadW hE 0 rfl rfl rfl rfl Tryd.isAgg33 Tryd.sizeOf33 rfl ?_) | (refine wpl_loadW hE 1 rfl rfl rfl rfl Tryd.isAgg33 Tryd.sizeOf33 rfl ?_) | (refine wpl_loadW hE 2 rfl rfl rfl rfl Tryd.isAgg33 Tryd.sizeOf33 rfl ?_) | (refine wpl_loadW hE 3 rfl rfl rfl rfl Tryd.isAgg33 Tryd.sizeOf33 rfl ?_) | (refine wpl_loadW hE 4 rfl rfl rfl rfl Tryd.isAgg33 Tryd.sizeOf33 rfl ?_) | (refine wpl_loadW hE 5 rfl rfl rfl rfl Tryd.isAgg33 Tryd.sizeOf33 rfl ?_) | (refine wpl_loadW hE 6 rfl rfl rfl rfl Tryd.isAgg33 Tryd.sizeOf33 rfl ?_) | (refine wpl_loadW hE 7 rfl rfl rfl rfl Tryd.isAgg33 Tryd.sizeOf33 rfl ?_)))
      | ((with_reducible (show Go.wpList _ _ _ (Go.Oper.mk _ (.store 33 _ _) _ _ _ _ :: _) _ _)); (first | (refine wpl_storeW hE 0 rfl rfl rfl (xs := [.slice ao L.length c]) rfl rfl Tryd.sizeOf33 rfl (by simp [Value.oneCell']) rfl ?_) | (refine wpl_storeW hE 1 rfl rfl rfl (xs := [.slice ao L.length c]) rfl rfl Tryd.sizeOf33 rfl (by simp [Value.oneCell']) rfl ?_) | (refine wpl_storeW hE 2 rfl rfl rfl (xs := [.slice ao L.length c]) rfl rfl Tryd.sizeOf33 rfl (by simp [Value.oneCell']) rfl ?_) | (refine wpl_storeW hE 3 rfl rfl rfl (xs := [.slice ao L.length c]) rfl rfl Tryd.sizeOf33 rfl (by simp [Value.oneCell']) rfl ?_) | (refine wpl_storeW hE 4 rfl rfl rfl (xs := [.slice ao L.length c]) rfl rfl Tryd.sizeOf33 rfl (by simp [Value.oneCell']) rfl ?_) | (refine wpl_storeW hE 5 rfl rfl rfl (xs := [.slice ao L.length c]) rfl rfl Tryd.sizeOf33 rfl (by simp [Value.oneCell']) rfl ?_) | (refine wpl_storeW hE 6 rfl rfl rfl (xs := [.slice ao L.length c]) rfl rfl Tryd.sizeOf33 rfl (by simp [Value.oneCell']) rfl ?_) | (refine wpl_storeW hE 7 rfl rfl rfl (xs := [.slice ao L.length c]) rfl rfl Tryd.sizeOf33 rfl (by simp [Value.oneCell']) rfl ?_)); clear hE; intro w hE; simp only [List.set_cons_zero, List.set_cons_succ] at hE)
      | ((with_reducible (show Go.wpList _ _ _ (Go.Oper.mk _ (.load _ _) _ _ _ _ :: _) _ _)); (first | (refine wpl_load1 hE 0 rfl rfl rfl rfl (by simp [go_sem]) rfl ?_) | (refine wpl_load1 hE 1 rfl rfl rfl rfl (by simp [go_sem]) rfl ?_) | (refine wpl_load1 hE 2 rfl rfl rfl rfl (by simp [go_sem]) rfl ?_) | (refine wpl_load1 hE 3 rfl rfl rfl rfl (by simp [go_sem]) rfl ?_) | (refine wpl_load1 hE 4 rfl rfl rfl rfl (by simp [go_sem]) rfl ?_) | (refine wpl_load1 hE 5 rfl rfl rfl rfl (by simp [go_sem]) rfl ?_) | (refine wpl_load1 hE 6 rfl rfl rfl rfl (by simp [go_sem]) rfl ?_) | (refine wpl_load1 hE 7 rfl rfl rfl rfl (by simp [go_sem]) rfl ?_))))
    cases hA : (xp == []) with
    | true =>
      rw [hA] at hmA
      have HB := SL.hid (show addE L _ = 8 ∧ (8 : Int) ≠ 0 from ⟨HE2.out.trans (if_pos (.inl (by simpa using hA))), by decide⟩)
      refine wp_region_held_drew (S := (fun w' => ((Instr.loadAt 9 (.pointer (some ⟨b3, 0, none⟩))).run Tryd.prog w' = .ok (.string ⟨xp.toArray⟩) w') ∧ ((Instr.loadAt 4 (.pointer (some ⟨b3, 1, none⟩))).run Tryd.prog w' = .ok (.bool xd) w') ∧ ((Instr.loadAt 9 (.pointer (some ⟨b3, 2, none⟩))).run Tryd.prog w' = .ok (.string ⟨xb.toArray⟩) w') ∧ ((Instr.loadAt 33 (.pointer (some ⟨b2, 0, none⟩))).run Tryd.prog w' = .ok (.agg [.slice ao L.length c].toArray) w'))) (by kernel_rfl) ⟨(atVm hE.drew (by repeat (first | exact List.Mem.head _ | refine List.Mem.tail _ ?_)) (by simp [go_sem]) rfl), (atVm hE.drew (by repeat (first | exact List.Mem.head _ | refine List.Mem.tail _ ?_)) (by simp [go_sem]) rfl), (atVm hE.drew (by repeat (first | exact List.Mem.head _ | refine List.Mem.tail _ ?_)) (by simp [go_sem]) rfl), (atWm hE.drew (by repeat (first | exact List.Mem.head _ | refine List.Mem.tail _ ?_)) Tryd.isAgg33 Tryd.sizeOf33 rfl)⟩ (fun hS => ?_)
      refine takeW 0 ⟨some 18, .fieldAddr 41 (.tmp 3) 0, 0, "ref.go:55", #[], none⟩ ?_ (.inl ⟨by rfl, ?_⟩) hS ?_
      rotate_left
      · (intro w hSw; (try dsimp only at hSw); go_simp; (try with_reducible rfl))
      try simp only [Act.put, sb, s0, sz]
      refine takeW 1 ⟨some 19, .load 9 (.tmp 18), 9, "ref.go:55", #[⟨0, .data⟩], none⟩ ?_ (.inl ⟨by rfl, ?_⟩) hS ?_
      rotate_left
      · (intro w hSw; (try dsimp only at hSw); go_simp; (try with_reducible rfl))
      try simp only [Act.put, sb, s0, sz]
      refine takeW 2 ⟨some 20, .binOp .eql 9 (.tmp 19) (.const (.string { data := #[] })) 9, 4, "ref.go:55", #[⟨1, .data⟩], none⟩ ?_ (.inl ⟨by rfl, ?_⟩) hS ?_
      rotate_left
      · (intro w hSw; (try dsimp only at hSw); go_simp; (try with_reducible rfl))
      try simp only [Act.put, sb, s0, sz]
      refine takeW 3 ⟨some 21, .move (.tmp 20), 4, "ref.go:55", #[⟨2, .data⟩], none⟩ ?_ (.inl ⟨by rfl, ?_⟩) hS ?_
      rotate_left
      · (intro w hSw; (try dsimp only at hSw); go_simp; (try with_reducible rfl))
      try simp only [Act.put, sb, s0, sz]
      refine takeW 4 ⟨some 22, .fieldAddr 41 (.tmp 3) 1, 0, "ref.go:55", #[⟨3, .guard⟩], some (3, false)⟩ undef (.inr ⟨by rfl, rfl⟩) hS ?_; try simp only [Act.put, sb, s0, sz]
      refine takeW 5 ⟨some 23, .load 4 (.tmp 22), 4, "ref.go:55", #[⟨4, .data⟩, ⟨3, .guard⟩], some (3, false)⟩ undef (.inr ⟨by rfl, rfl⟩) hS ?_; try simp only [Act.put, sb, s0, sz]
      refine takeW 6 ⟨some 24, .move (.tmp 23), 4, "ref.go:55", #[⟨5, .data⟩, ⟨3, .chain⟩, ⟨3, .guard⟩], some (3, false)⟩ undef (.inr ⟨by rfl, rfl⟩) hS ?_; try simp only [Act.put, sb, s0, sz]
      refine takeW 7 ⟨some 25, .fieldAddr 41 (.tmp 3) 2, 0, "ref.go:55", #[⟨6, .guard⟩], some (6, true)⟩ undef (.inr ⟨by rfl, rfl⟩) hS ?_; try simp only [Act.put, sb, s0, sz]
      refine takeW 8 ⟨some 26, .load 9 (.tmp 25), 9, "ref.go:55", #[⟨7, .data⟩, ⟨6, .guard⟩], some (6, true)⟩ undef (.inr ⟨by rfl, rfl⟩) hS ?_; try simp only [Act.put, sb, s0, sz]
      refine takeW 9 ⟨some 27, .binOp .neq 9 (.tmp 26) (.const (.string { data := #[] })) 9, 4, "ref.go:55", #[⟨8, .data⟩, ⟨6, .guard⟩], some (6, true)⟩ undef (.inr ⟨by rfl, rfl⟩) hS ?_; try simp only [Act.put, sb, s0, sz]
      refine takeW 10 ⟨some 28, .pick (.tmp 24) (.tmp 27) (.const (.bool false)), 4, "ref.go:55", #[⟨6, .data⟩, ⟨9, .data⟩, ⟨3, .guard⟩], some (3, false)⟩ undef (.inr ⟨by rfl, rfl⟩) hS ?_; try simp only [Act.put, sb, s0, sz]
      refine takeW 11 ⟨some 29, .pick (.tmp 21) (.const (.bool true)) (.tmp 28), 4, "ref.go:55", #[⟨3, .data⟩, ⟨10, .data⟩], none⟩ ?_ (.inl ⟨by rfl, ?_⟩) hS ?_
      rotate_left
      · (intro w hSw; (try dsimp only at hSw); go_simp; (try with_reducible rfl))
      try simp only [Act.put, sb, s0, sz]
      refine takeW 12 ⟨some 30, .move (.tmp 29), 4, "ref.go:55", #[⟨11, .data⟩, ⟨6, .chain⟩], none⟩ ?_ (.inl ⟨by rfl, ?_⟩) hS ?_
      rotate_left
      · (intro w hSw; (try dsimp only at hSw); go_simp; (try with_reducible rfl))
      try simp only [Act.put, sb, s0, sz]
      refine takeW 13 ⟨some 31, .load 33 (.tmp 2), 33, "ref.go:55", #[⟨12, .guard⟩], some (12, false)⟩ undef (.inr ⟨by rfl, rfl⟩) hS ?_; try simp only [Act.put, sb, s0, sz]
      refine takeW 14 ⟨some 32, .fieldAddr 41 (.tmp 3) 0, 0, "ref.go:55", #[⟨12, .guard⟩], some (12, false)⟩ undef (.inr ⟨by rfl, rfl⟩) hS ?_; try simp only [Act.put, sb, s0, sz]
      refine takeW 15 ⟨some 33, .load 9 (.tmp 32), 9, "ref.go:55", #[⟨14, .data⟩, ⟨12, .guard⟩], some (12, false)⟩ undef (.inr ⟨by rfl, rfl⟩) hS ?_; try simp only [Act.put, sb, s0, sz]
      refine takeW 16 ⟨some 34, .call { callee := .value (.func 49), args := #[.tmp 31, .tmp 33], argTypes := #[33, 9] }, 3, "ref.go:55", #[⟨13, .data⟩, ⟨15, .data⟩, ⟨12, .chain⟩, ⟨12, .guard⟩], some (12, false)⟩ undef (.inr ⟨by rfl, rfl⟩) hS ?_; try simp only [Act.put, sb, s0, sz]
      refine takeW 17 ⟨some 35, .binOp .geq 3 (.tmp 34) (.const (.int .i64 0)) 3, 4, "ref.go:55", #[⟨16, .data⟩, ⟨12, .guard⟩], some (12, false)⟩ undef (.inr ⟨by rfl, rfl⟩) hS ?_; try simp only [Act.put, sb, s0, sz]
      refine takeW 18 ⟨some 36, .pick (.tmp 30) (.const (.bool true)) (.tmp 35), 4, "ref.go:55", #[⟨12, .data⟩, ⟨17, .data⟩], none⟩ ?_ (.inl ⟨by rfl, ?_⟩) hS ?_
      rotate_left
      · (intro w hSw; (try dsimp only at hSw); go_simp; (try with_reducible rfl))
      try simp only [Act.put, sb, s0, sz]
      refine takeW 19 ⟨some 37, .move (.tmp 36), 4, "ref.go:55", #[⟨18, .data⟩, ⟨16, .chain⟩], none⟩ ?_ (.inl ⟨by rfl, ?_⟩) hS ?_
      rotate_left
      · (intro w hSw; (try dsimp only at hSw); go_simp; (try with_reducible rfl))
      try simp only [Act.put, sb, s0, sz]
      refine takeW 20 ⟨some 38, .load 33 (.tmp 2), 33, "ref.go:55", #[⟨19, .guard⟩], some (19, false)⟩ undef (.inr ⟨by rfl, rfl⟩) hS ?_; try simp only [Act.put, sb, s0, sz]
      refine takeW 21 ⟨some 39, .fieldAddr 41 (.tmp 3) 0, 0, "ref.go:55", #[⟨19, .guard⟩], some (19, false)⟩ undef (.inr ⟨by rfl, rfl⟩) hS ?_; try simp only [Act.put, sb, s0, sz]
      refine takeW 22 ⟨some 40, .load 9 (.tmp 39), 9, "ref.go:55", #[⟨21, .data⟩, ⟨19, .guard⟩], some (19, false)⟩ undef (.inr ⟨by rfl, rfl⟩) hS ?_; try simp only [Act.put, sb, s0, sz]
      refine takeW 23 ⟨some 41, .call { callee := .value (.func 51), args := #[.tmp 40], argTypes := #[9] }, 9, "ref.go:55", #[⟨22, .data⟩, ⟨19, .chain⟩, ⟨19, .guard⟩], some (19, false)⟩ undef (.inr ⟨by rfl, rfl⟩) hS ?_; try simp only [Act.put, sb, s0, sz]
      refine takeW 24 ⟨some 42, .call { callee := .value (.func 50), args := #[.tmp 38, .tmp 41], argTypes := #[33, 9] }, 4, "ref.go:55", #[⟨20, .data⟩, ⟨23, .data⟩, ⟨23, .chain⟩, ⟨19, .guard⟩], some (19, false)⟩ undef (.inr ⟨by rfl, rfl⟩) hS ?_; try simp only [Act.put, sb, s0, sz]
      refine takeW 25 ⟨some 43, .unOp Go.UnOp.not 4 (.tmp 42), 4, "ref.go:55", #[⟨24, .data⟩, ⟨19, .guard⟩], some (19, false)⟩ undef (.inr ⟨by rfl, rfl⟩) hS ?_; try simp only [Act.put, sb, s0, sz]
      refine takeW 26 ⟨some 44, .pick (.tmp 37) (.const (.bool true)) (.tmp 43), 4, "ref.go:55", #[⟨19, .data⟩, ⟨25, .data⟩], none⟩ ?_ (.inl ⟨by rfl, ?_⟩) hS ?_
      rotate_left
      · (intro w hSw; (try dsimp only at hSw); go_simp; (try with_reducible rfl))
      try simp only [Act.put, sb, s0, sz]
      refine wpAnyH_done (by kernel_rfl) ?_ _
      replace hE := hE.drew
      clear hS
      clear HE2
      go_wp2_with (first
        | go_skip
        | ((with_reducible (show Go.wpList _ _ _ (Go.Oper.mk _ (.load 33 _) _ _ _ _ :: _) _ _)); (first | (refine wpl_loadW hE 0 rfl rfl rfl rfl Tryd.isAgg33 Tryd.sizeOf33 rfl ?_) | (refine wpl_loadW hE 1 rfl rfl rfl rfl Tryd.isAgg33 Tryd.sizeOf33 rfl ?_) | (refine wpl_loadW hE 2 rfl rfl rfl rfl Tryd.isAgg33 Tryd.sizeOf33 rfl ?_) | (refine wpl_loadW hE 3 rfl rfl rfl rfl Tryd.isAgg33 Tryd.sizeOf33 rfl ?_) | (refine wpl_loadW hE 4 rfl rfl rfl rfl Tryd.isAgg33 Tryd.sizeOf33 rfl ?_) | (refine wpl_loadW hE 5 rfl rfl rfl rfl Tryd.isAgg33 Tryd.sizeOf33 rfl ?_) | (refine wpl_loadW hE 6 rfl rfl rfl rfl Tryd.isAgg33 Tryd.sizeOf33 rfl ?_) | (refine wpl_loadW hE 7 rfl rfl rfl rfl Tryd.isAgg33 Tryd.sizeOf33 rfl ?_)))
        | ((with_reducible (show Go.wpList _ _ _ (Go.Oper.mk _ (.store 33 _ _) _ _ _ _ :: _) _ _)); (first | (refine wpl_storeW hE 0 rfl rfl rfl (xs := [.slice ao L.length c]) rfl rfl Tryd.sizeOf33 rfl (by simp [Value.oneCell']) rfl ?_) | (refine wpl_storeW hE 1 rfl rfl rfl (xs := [.slice ao L.length c]) rfl rfl Tryd.sizeOf33 rfl (by simp [Value.oneCell']) rfl ?_) | (refine wpl_storeW hE 2 rfl rfl rfl (xs := [.slice ao L.length c]) rfl rfl Tryd.sizeOf33 rfl (by simp [Value.oneCell']) rfl ?_) | (refine wpl_storeW hE 3 rfl rfl rfl (xs := [.slice ao L.length c]) rfl rfl Tryd.sizeOf33 rfl (by simp [Value.oneCell']) rfl ?_) | (refine wpl_storeW hE 4 rfl rfl rfl (xs := [.slice ao L.length c]) rfl rfl Tryd.sizeOf33 rfl (by simp [Value.oneCell']) rfl ?_) | (refine wpl_storeW hE 5 rfl rfl rfl (xs := [.slice ao L.length c]) rfl rfl Tryd.sizeOf33 rfl (by simp [Value.oneCell']) rfl ?_) | (refine wpl_storeW hE 6 rfl rfl rfl (xs := [.slice ao L.length c]) rfl rfl Tryd.sizeOf33 rfl (by simp [Value.oneCell']) rfl ?_) | (refine wpl_storeW hE 7 rfl rfl rfl (xs := [.slice ao L.length c]) rfl rfl Tryd.sizeOf33 rfl (by simp [Value.oneCell']) rfl ?_)); clear hE; intro w hE; simp only [List.set_cons_zero, List.set_cons_succ] at hE))
      refine bodyPost_ret (results_cell2 rfl hE 0 rfl rfl Tryd.isAgg33 Tryd.sizeOf33 rfl rfl) rfl ?_
      exact ⟨_, rfl, AddPost.bad HB.out (m := [_, _, _]) hE⟩
    | false =>
      rw [hA] at hmA
      cases xd with
      | true =>
        cases hB : (xb == []) with
        | false =>
          rw [hB] at hmB hmB2
          have HB := SL.hid (show addE L _ = 8 ∧ (8 : Int) ≠ 0 from ⟨HE2.out.trans (if_pos (.inr (.inl ⟨rfl, by simpa using hB⟩))), by decide⟩)
          refine wp_region_held_drew (S := (fun w' => ((Instr.loadAt 9 (.pointer (some ⟨b3, 0, none⟩))).run Tryd.prog w' = .ok (.string ⟨xp.toArray⟩) w') ∧ ((Instr.loadAt 4 (.pointer (some ⟨b3, 1, none⟩))).run Tryd.prog w' = .ok (.bool true) w') ∧ ((Instr.loadAt 9 (.pointer (some ⟨b3, 2, none⟩))).run Tryd.prog w' = .ok (.string ⟨xb.toArray⟩) w') ∧ ((Instr.loadAt 33 (.pointer (some ⟨b2, 0, none⟩))).run Tryd.prog w' = .ok (.agg [.slice ao L.length c].toArray) w'))) (by kernel_rfl) ⟨(atVm hE.drew (by repeat (first | exact List.Mem.head _ | refine List.Mem.tail _ ?_)) (by simp [go_sem]) rfl), (atVm hE.drew (by repeat (first | exact List.Mem.head _ | refine List.Mem.tail _ ?_)) (by simp [go_sem]) rfl), (atVm hE.drew (by repeat (first | exact List.Mem.head _ | refine List.Mem.tail _ ?_)) (by simp [go_sem]) rfl), (atWm hE.drew (by repeat (first | exact List.Mem.head _ | refine List.Mem.tail _ ?_)) Tryd.isAgg33 Tryd.sizeOf33 rfl)⟩ (fun hS => ?_)
          refine takeW 0 ⟨some 18, .fieldAddr 41 (.tmp 3) 0, 0, "ref.go:55", #[], none⟩ ?_ (.inl ⟨by rfl, ?_⟩) hS ?_
          rotate_left
          · (intro w hSw; (try dsimp only at hSw); go_simp; (try with_reducible rfl))
          try simp only [Act.put, sb, s0, sz]
          refine takeW 1 ⟨some 19, .load 9 (.tmp 18), 9, "ref.go:55", #[⟨0, .data⟩], none⟩ ?_ (.inl ⟨by rfl, ?_⟩) hS ?_
          rotate_left
          · (intro w hSw; (try dsimp only at hSw); go_simp; (try with_reducible rfl))
          try simp only [Act.put, sb, s0, sz]
          refine takeW 2 ⟨some 20, .binOp .eql 9 (.tmp 19) (.const (.string { data := #[] })) 9, 4, "ref.go:55", #[⟨1, .data⟩], none⟩ ?_ (.inl ⟨by rfl, ?_⟩) hS ?_
          rotate_left
          · (intro w hSw; (try dsimp only at hSw); go_simp; (try with_reducible rfl))
          try simp only [Act.put, sb, s0, sz]
          refine takeW 3 ⟨some 21, .move (.tmp 20), 4, "ref.go:55", #[⟨2, .data⟩], none⟩ ?_ (.inl ⟨by rfl, ?_⟩) hS ?_
          rotate_left
          · (intro w hSw; (try dsimp only at hSw); go_simp; (try with_reducible rfl))
          try simp only [Act.put, sb, s0, sz]
          refine takeW 4 ⟨some 22, .fieldAddr 41 (.tmp 3) 1, 0, "ref.go:55", #[⟨3, .guard⟩], some (3, false)⟩ ?_ (.inl ⟨by rfl, ?_⟩) hS ?_
          rotate_left
          · (intro w hSw; (try dsimp only at hSw); go_simp; (try with_reducible rfl))
          try simp only [Act.put, sb, s0, sz]
          refine takeW 5 ⟨some 23, .load 4 (.tmp 22), 4, "ref.go:55", #[⟨4, .data⟩, ⟨3, .guard⟩], some (3, false)⟩ ?_ (.inl ⟨by rfl, ?_⟩) hS ?_
          rotate_left
          · (intro w hSw; (try dsimp only at hSw); go_simp; (try with_reducible rfl))
          try simp only [Act.put, sb, s0, sz]
          refine takeW 6 ⟨some 24, .move (.tmp 23), 4, "ref.go:55", #[⟨5, .data⟩, ⟨3, .chain⟩, ⟨3, .guard⟩], some (3, false)⟩ ?_ (.inl ⟨by rfl, ?_⟩) hS ?_
          rotate_left
          · (intro w hSw; (try dsimp only at hSw); go_simp; (try with_reducible rfl))
          try simp only [Act.put, sb, s0, sz]
          refine takeW 7 ⟨some 25, .fieldAddr 41 (.tmp 3) 2, 0, "ref.go:55", #[⟨6, .guard⟩], some (6, true)⟩ ?_ (.inl ⟨by rfl, ?_⟩) hS ?_
          rotate_left
          · (intro w hSw; (try dsimp only at hSw); go_simp; (try with_reducible rfl))
          try simp only [Act.put, sb, s0, sz]
          refine takeW 8 ⟨some 26, .load 9 (.tmp 25), 9, "ref.go:55", #[⟨7, .data⟩, ⟨6, .guard⟩], some (6, true)⟩ ?_ (.inl ⟨by rfl, ?_⟩) hS ?_
          rotate_left
          · (intro w hSw; (try dsimp only at hSw); go_simp; (try with_reducible rfl))
          try simp only [Act.put, sb, s0, sz]
          refine takeW 9 ⟨some 27, .binOp .neq 9 (.tmp 26) (.const (.string { data := #[] })) 9, 4, "ref.go:55", #[⟨8, .data⟩, ⟨6, .guard⟩], some (6, true)⟩ ?_ (.inl ⟨by rfl, ?_⟩) hS ?_
          rotate_left
          · (intro w hSw; (try dsimp only at hSw); go_simp; (try with_reducible rfl))
          try simp only [Act.put, sb, s0, sz]
          refine takeW 10 ⟨some 28, .pick (.tmp 24) (.tmp 27) (.const (.bool false)), 4, "ref.go:55", #[⟨6, .data⟩, ⟨9, .data⟩, ⟨3, .guard⟩], some (3, false)⟩ ?_ (.inl ⟨by rfl, ?_⟩) hS ?_
          rotate_left
          · (intro w hSw; (try dsimp only at hSw); go_simp; (try with_reducible rfl))
          try simp only [Act.put, sb, s0, sz]
          refine takeW 11 ⟨some 29, .pick (.tmp 21) (.const (.bool true)) (.tmp 28), 4, "ref.go:55", #[⟨3, .data⟩, ⟨10, .data⟩], none⟩ ?_ (.inl ⟨by rfl, ?_⟩) hS ?_
          rotate_left
          · (intro w hSw; (try dsimp only at hSw); go_simp; (try with_reducible rfl))
          try simp only [Act.put, sb, s0, sz]
          refine takeW 12 ⟨some 30, .move (.tmp 29), 4, "ref.go:55", #[⟨11, .data⟩, ⟨6, .chain⟩], none⟩ ?_ (.inl ⟨by rfl, ?_⟩) hS ?_
          rotate_left
          · (intro w hSw; (try dsimp only at hSw); go_simp; (try with_reducible rfl))
          try simp only [Act.put, sb, s0, sz]
          refine takeW 13 ⟨some 31, .load 33 (.tmp 2), 33, "ref.go:55", #[⟨12, .guard⟩], some (12, false)⟩ undef (.inr ⟨by rfl, rfl⟩) hS ?_; try simp only [Act.put, sb, s0, sz]
          refine takeW 14 ⟨some 32, .fieldAddr 41 (.tmp 3) 0, 0, "ref.go:55", #[⟨12, .guard⟩], some (12, false)⟩ undef (.inr ⟨by rfl, rfl⟩) hS ?_; try simp only [Act.put, sb, s0, sz]
          refine takeW 15 ⟨some 33, .load 9 (.tmp 32), 9, "ref.go:55", #[⟨14, .data⟩, ⟨12, .guard⟩], some (12, false)⟩ undef (.inr ⟨by rfl, rfl⟩) hS ?_; try simp only [Act.put, sb, s0, sz]
          refine takeW 16 ⟨some 34, .call { callee := .value (.func 49), args := #[.tmp 31, .tmp 33], argTypes := #[33, 9] }, 3, "ref.go:55", #[⟨13, .data⟩, ⟨15, .data⟩, ⟨12, .chain⟩, ⟨12, .guard⟩], some (12, false)⟩ undef (.inr ⟨by rfl, rfl⟩) hS ?_; try simp only [Act.put, sb, s0, sz]
          refine takeW 17 ⟨some 35, .binOp .geq 3 (.tmp 34) (.const (.int .i64 0)) 3, 4, "ref.go:55", #[⟨16, .data⟩, ⟨12, .guard⟩], some (12, false)⟩ undef (.inr ⟨by rfl, rfl⟩) hS ?_; try simp only [Act.put, sb, s0, sz]
          refine takeW 18 ⟨some 36, .pick (.tmp 30) (.const (.bool true)) (.tmp 35), 4, "ref.go:55", #[⟨12, .data⟩, ⟨17, .data⟩], none⟩ ?_ (.inl ⟨by rfl, ?_⟩) hS ?_
          rotate_left
          · (intro w hSw; (try dsimp only at hSw); go_simp; (try with_reducible rfl))
          try simp only [Act.put, sb, s0, sz]
          refine takeW 19 ⟨some 37, .move (.tmp 36), 4, "ref.go:55", #[⟨18, .data⟩, ⟨16, .chain⟩], none⟩ ?_ (.inl ⟨by rfl, ?_⟩) hS ?_
          rotate_left
          · (intro w hSw; (try dsimp only at hSw); go_simp; (try with_reducible rfl))
          try simp only [Act.put, sb, s0, sz]
          refine takeW 20 ⟨some 38, .load 33 (.tmp 2), 33, "ref.go:55", #[⟨19, .guard⟩], some (19, false)⟩ undef (.inr ⟨by rfl, rfl⟩) hS ?_; try simp only [Act.put, sb, s0, sz]
          refine takeW 21 ⟨some 39, .fieldAddr 41 (.tmp 3) 0, 0, "ref.go:55", #[⟨19, .guard⟩], some (19, false)⟩ undef (.inr ⟨by rfl, rfl⟩) hS ?_; try simp only [Act.put, sb, s0, sz]
          refine takeW 22 ⟨some 40, .load 9 (.tmp 39), 9, "ref.go:55", #[⟨21, .data⟩, ⟨19, .guard⟩], some (19, false)⟩ undef (.inr ⟨by rfl, rfl⟩) hS ?_; try simp only [Act.put, sb, s0, sz]
          refine takeW 23 ⟨some 41, .call { callee := .value (.func 51), args := #[.tmp 40], argTypes := #[9] }, 9, "ref.go:55", #[⟨22, .data⟩, ⟨19, .chain⟩, ⟨19, .guard⟩], some (19, false)⟩ undef (.inr ⟨by rfl, rfl⟩) hS ?_; try simp only [Act.put, sb, s0, sz]
          refine takeW 24 ⟨some 42, .call { callee := .value (.func 50), args := #[.tmp 38, .tmp 41], argTypes := #[33, 9] }, 4, "ref.go:55", #[⟨20, .data⟩, ⟨23, .data⟩, ⟨23, .chain⟩, ⟨19, .guard⟩], some (19, false)⟩ undef (.inr ⟨by rfl, rfl⟩) hS ?_; try simp only [Act.put, sb, s0, sz]
          refine takeW 25 ⟨some 43, .unOp Go.UnOp.not 4 (.tmp 42), 4, "ref.go:55", #[⟨24, .data⟩, ⟨19, .guard⟩], some (19, false)⟩ undef (.inr ⟨by rfl, rfl⟩) hS ?_; try simp only [Act.put, sb, s0, sz]
          refine takeW 26 ⟨some 44, .pick (.tmp 37) (.const (.bool true)) (.tmp 43), 4, "ref.go:55", #[⟨19, .data⟩, ⟨25, .data⟩], none⟩ ?_ (.inl ⟨by rfl, ?_⟩) hS ?_
          rotate_left
          · (intro w hSw; (try dsimp only at hSw); go_simp; (try with_reducible rfl))
          try simp only [Act.put, sb, s0, sz]
          refine wpAnyH_done (by kernel_rfl) ?_ _
          replace hE := hE.drew
          clear hS
          clear HE2
          go_wp2_with (first
            | go_skip
            | ((with_reducible (show Go.wpList _ _ _ (Go.Oper.mk _ (.load 33 _) _ _ _ _ :: _) _ _)); (first | (refine wpl_loadW hE 0 rfl rfl rfl rfl Tryd.isAgg33 Tryd.sizeOf33 rfl ?_) | (refine wpl_loadW hE 1 rfl rfl rfl rfl Tryd.isAgg33 Tryd.sizeOf33 rfl ?_) | (refine wpl_loadW hE 2 rfl rfl rfl rfl Tryd.isAgg33 Tryd.sizeOf33 rfl ?_) | (refine wpl_loadW hE 3 rfl rfl rfl rfl Tryd.isAgg33 Tryd.sizeOf33 rfl ?_) | (refine wpl_loadW hE 4 rfl rfl rfl rfl Tryd.isAgg33 Tryd.sizeOf33 rfl ?_) | (refine wpl_loadW hE 5 rfl rfl rfl rfl Tryd.isAgg33 Tryd.sizeOf33 rfl ?_) | (refine wpl_loadW hE 6 rfl rfl rfl rfl Tryd.isAgg33 Tryd.sizeOf33 rfl ?_) | (refine wpl_loadW hE 7 rfl rfl rfl rfl Tryd.isAgg33 Tryd.sizeOf33 rfl ?_)))
            | ((with_reducible (show Go.wpList _ _ _ (Go.Oper.mk _ (.store 33 _ _) _ _ _ _ :: _) _ _)); (first | (refine wpl_storeW hE 0 rfl rfl rfl (xs := [.slice ao L.length c]) rfl rfl Tryd.sizeOf33 rfl (by simp [Value.oneCell']) rfl ?_) | (refine wpl_storeW hE 1 rfl rfl rfl (xs := [.slice ao L.length c]) rfl rfl Tryd.sizeOf33 rfl (by simp [Value.oneCell']) rfl ?_) | (refine wpl_storeW hE 2 rfl rfl rfl (xs := [.slice ao L.length c]) rfl rfl Tryd.sizeOf33 rfl (by simp [Value.oneCell']) rfl ?_) | (refine wpl_storeW hE 3 rfl rfl rfl (xs := [.slice ao L.length c]) rfl rfl Tryd.sizeOf33 rfl (by simp [Value.oneCell']) rfl ?_) | (refine wpl_storeW hE 4 rfl rfl rfl (xs := [.slice ao L.length c]) rfl rfl Tryd.sizeOf33 rfl (by simp [Value.oneCell']) rfl ?_) | (refine wpl_storeW hE 5 rfl rfl rfl (xs := [.slice ao L.length c]) rfl rfl Tryd.sizeOf33 rfl (by simp [Value.oneCell']) rfl ?_) | (refine wpl_storeW hE 6 rfl rfl rfl (xs := [.slice ao L.length c]) rfl rfl Tryd.sizeOf33 rfl (by simp [Value.oneCell']) rfl ?_) | (refine wpl_storeW hE 7 rfl rfl rfl (xs := [.slice ao L.length c]) rfl rfl Tryd.sizeOf33 rfl (by simp [Value.oneCell']) rfl ?_)); clear hE; intro w hE; simp only [List.set_cons_zero, List.set_cons_succ] at hE))
          refine bodyPost_ret (results_cell2 rfl hE 0 rfl rfl Tryd.isAgg33 Tryd.sizeOf33 rfl rfl) rfl ?_
          exact ⟨_, rfl, AddPost.bad HB.out (m := [_, _, _]) hE⟩
        | true =>
          rw [hB] at hmB hmB2
          by_cases hC : 0 ≤ ai
          · skip
            have HB := SL.hid (show addE L _ = 8 ∧ (8 : Int) ≠ 0 from ⟨HE2.out.trans (if_pos (.inr (.inr (.inl (by simp [hC]))))), by decide⟩)
            refine wp_region_held_drew (S := (fun w' => ((Instr.loadAt 9 (.pointer (some ⟨b3, 0, none⟩))).run Tryd.prog w' = .ok (.string ⟨xp.toArray⟩) w') ∧ ((Instr.loadAt 4 (.pointer (some ⟨b3, 1, none⟩))).run Tryd.prog w' = .ok (.bool true) w') ∧ ((Instr.loadAt 9 (.pointer (some ⟨b3, 2, none⟩))).run Tryd.prog w' = .ok (.string ⟨xb.toArray⟩) w') ∧ ((Instr.loadAt 33 (.pointer (some ⟨b2, 0, none⟩))).run Tryd.prog w' = .ok (.agg [.slice ao L.length c].toArray) w'))) (by kernel_rfl) ⟨(atVm hE.drew (by repeat (first | exact List.Mem.head _ | refine List.Mem.tail _ ?_)) (by simp [go_sem]) rfl), (atVm hE.drew (by repeat (first | exact List.Mem.head _ | refine List.Mem.tail _ ?_)) (by simp [go_sem]) rfl), (atVm hE.drew (by repeat (first | exact List.Mem.head _ | refine List.Mem.tail _ ?_)) (by simp [go_sem]) rfl), (atWm hE.drew (by repeat (first | exact List.Mem.head _ | refine List.Mem.tail _ ?_)) Tryd.isAgg33 Tryd.sizeOf33 rfl)⟩ (fun hS => ?_)
            refine takeW 0 ⟨some 18, .fieldAddr 41 (.tmp 3) 0, 0, "ref.go:55", #[], none⟩ ?_ (.inl ⟨by rfl, ?_⟩) hS ?_
            rotate_left
            · (intro w hSw; (try dsimp only at hSw); go_simp; (try with_reducible rfl))
            try simp only [Act.put, sb, s0, sz]
            refine takeW 1 ⟨some 19, .load 9 (.tmp 18), 9, "ref.go:55", #[⟨0, .data⟩], none⟩ ?_ (.inl ⟨by rfl, ?_⟩) hS ?_
            rotate_left
            · (intro w hSw; (try dsimp only at hSw); go_simp; (try with_reducible rfl))
            try simp only [Act.put, sb, s0, sz]
            refine takeW 2 ⟨some 20, .binOp .eql 9 (.tmp 19) (.const (.string { data := #[] })) 9, 4, "ref.go:55", #[⟨1, .data⟩], none⟩ ?_ (.inl ⟨by rfl, ?_⟩) hS ?_
            rotate_left
            · (intro w hSw; (try dsimp only at hSw); go_simp; (try with_reducible rfl))
            try simp only [Act.put, sb, s0, sz]
            refine takeW 3 ⟨some 21, .move (.tmp 20), 4, "ref.go:55", #[⟨2, .data⟩], none⟩ ?_ (.inl ⟨by rfl, ?_⟩) hS ?_
            rotate_left
            · (intro w hSw; (try dsimp only at hSw); go_simp; (try with_reducible rfl))
            try simp only [Act.put, sb, s0, sz]
            refine takeW 4 ⟨some 22, .fieldAddr 41 (.tmp 3) 1, 0, "ref.go:55", #[⟨3, .guard⟩], some (3, false)⟩ ?_ (.inl ⟨by rfl, ?_⟩) hS ?_
            rotate_left
            · (intro w hSw; (try dsimp only at hSw); go_simp; (try with_reducible rfl))
            try simp only [Act.put, sb, s0, sz]
            refine takeW 5 ⟨some 23, .load 4 (.tmp 22), 4, "ref.go:55", #[⟨4, .data⟩, ⟨3, .guard⟩], some (3, false)⟩ ?_ (.inl ⟨by rfl, ?_⟩) hS ?_
            rotate_left
            · (intro w hSw; (try dsimp only at hSw); go_simp; (try with_reducible rfl))
            try simp only [Act.put, sb, s0, sz]
            refine takeW 6 ⟨some 24, .move (.tmp 23), 4, "ref.go:55", #[⟨5, .data⟩, ⟨3, .chain⟩, ⟨3, .guard⟩], some (3, false)⟩ ?_ (.inl ⟨by rfl, ?_⟩) hS ?_
            rotate_left
            · (intro w hSw; (try dsimp only at hSw); go_simp; (try with_reducible rfl))
            try simp only [Act.put, sb, s0, sz]
            refine takeW 7 ⟨some 25, .fieldAddr 41 (.tmp 3) 2, 0, "ref.go:55", #[⟨6, .guard⟩], some (6, true)⟩ ?_ (.inl ⟨by rfl, ?_⟩) hS ?_
            rotate_left
            · (intro w hSw; (try dsimp only at hSw); go_simp; (try with_reducible rfl))
            try simp only [Act.put, sb, s0, sz]
            refine takeW 8 ⟨some 26, .load 9 (.tmp 25), 9, "ref.go:55", #[⟨7, .data⟩, ⟨6, .guard⟩], some (6, true)⟩ ?_ (.inl ⟨by rfl, ?_⟩) hS ?_
            rotate_left
            · (intro w hSw; (try dsimp only at hSw); go_simp; (try with_reducible rfl))
            try simp only [Act.put, sb, s0, sz]
            refine takeW 9 ⟨some 27, .binOp .neq 9 (.tmp 26) (.const (.string { data := #[] })) 9, 4, "ref.go:55", #[⟨8, .data⟩, ⟨6, .guard⟩], some (6, true)⟩ ?_ (.inl ⟨by rfl, ?_⟩) hS ?_
            rotate_left
            · (intro w hSw; (try dsimp only at hSw); go_simp; (try with_reducible rfl))
            try simp only [Act.put, sb, s0, sz]
            refine takeW 10 ⟨some 28, .pick (.tmp 24) (.tmp 27) (.const (.bool false)), 4, "ref.go:55", #[⟨6, .data⟩, ⟨9, .data⟩, ⟨3, .guard⟩], some (3, false)⟩ ?_ (.inl ⟨by rfl, ?_⟩) hS ?_
            rotate_left
            · (intro w hSw; (try dsimp only at hSw); go_simp; (try with_reducible rfl))
            try simp only [Act.put, sb, s0, sz]
            refine takeW 11 ⟨some 29, .pick (.tmp 21) (.const (.bool true)) (.tmp 28), 4, "ref.go:55", #[⟨3, .data⟩, ⟨10, .data⟩], none⟩ ?_ (.inl ⟨by rfl, ?_⟩) hS ?_
            rotate_left
            · (intro w hSw; (try dsimp only at hSw); go_simp; (try with_reducible rfl))
            try simp only [Act.put, sb, s0, sz]
            refine takeW 12 ⟨some 30, .move (.tmp 29), 4, "ref.go:55", #[⟨11, .data⟩, ⟨6, .chain⟩], none⟩ ?_ (.inl ⟨by rfl, ?_⟩) hS ?_
            rotate_left
            · (intro w hSw; (try dsimp only at hSw); go_simp; (try with_reducible rfl))
            try simp only [Act.put, sb, s0, sz]
            refine takeW 13 ⟨some 31, .load 33 (.tmp 2), 33, "ref.go:55", #[⟨12, .guard⟩], some (12, false)⟩ ?_ (.inl ⟨by rfl, ?_⟩) hS ?_
            rotate_left
            · (intro w hSw; (try dsimp only at hSw); go_simp; (try with_reducible rfl))
            try simp only [Act.put, sb, s0, sz]
            refine takeW 14 ⟨some 32, .fieldAddr 41 (.tmp 3) 0, 0, "ref.go:55", #[⟨12, .guard⟩], some (12, false)⟩ ?_ (.inl ⟨by rfl, ?_⟩) hS ?_
            rotate_left
            · (intro w hSw; (try dsimp only at hSw); go_simp; (try with_reducible rfl))
            try simp only [Act.put, sb, s0, sz]
            refine takeW 15 ⟨some 33, .load 9 (.tmp 32), 9, "ref.go:55", #[⟨14, .data⟩, ⟨12, .guard⟩], some (12, false)⟩ ?_ (.inl ⟨by rfl, ?_⟩) hS ?_
            rotate_left
            · (intro w hSw; (try dsimp only at hSw); go_simp; (try with_reducible rfl))
            try simp only [Act.put, sb, s0, sz]
            refine wpAnyH_ready (rs := [16]) (by kernel_rfl) (by simp) ?_
            refine (AllReadyH.cons (o := { dst := some 34, op := Go.Op.call { callee := Go.Callee.value (Go.Operand.func 49), args := #[Go.Operand.tmp 31, Go.Operand.tmp 33], argTypes := #[33, 9] }, type := 3, pos := "ref.go:55", after := #[{ on := 13, ground := Go.Ground.data }, { on := 15, ground := Go.Ground.data }, { on := 12, ground := Go.Ground.chain }, { on := 12, ground := Go.Ground.guard }], guard := some (12, false) }) rfl (fun K hK => ?_) AllReadyH.nil)
            (go_simp; refine (HAt.out _ _ (by repeat (first | exact List.suffix_refl _ | refine List.IsSuffix.trans ?_ (List.suffix_cons _ _))) hE.drew).mono ?_; rintro e w3 ⟨v, rfl, rfl, hA1⟩)
            refine hK.out _ _ ⟨(atVm hA1 (by repeat (first | exact List.Mem.head _ | refine List.Mem.tail _ ?_)) (by simp [go_sem]) rfl), (atVm hA1 (by repeat (first | exact List.Mem.head _ | refine List.Mem.tail _ ?_)) (by simp [go_sem]) rfl), (atVm hA1 (by repeat (first | exact List.Mem.head _ | refine List.Mem.tail _ ?_)) (by simp [go_sem]) rfl), (atWm hA1 (by repeat (first | exact List.Mem.head _ | refine List.Mem.tail _ ?_)) Tryd.isAgg33 Tryd.sizeOf33 rfl)⟩ (fun hS => ?_)
            clear hK K
            try simp only [Act.put, sb, s0, sz]
            refine takeW 17 ⟨some 35, .binOp .geq 3 (.tmp 34) (.const (.int .i64 0)) 3, 4, "ref.go:55", #[⟨16, .data⟩, ⟨12, .guard⟩], some (12, false)⟩ ?_ (.inl ⟨by rfl, ?_⟩) hS ?_
            rotate_left
            · (intro w hSw; (try dsimp only at hSw); go_simp; (try with_reducible rfl))
            try simp only [Act.put, sb, s0, sz]
            refine takeW 18 ⟨some 36, .pick (.tmp 30) (.const (.bool true)) (.tmp 35), 4, "ref.go:55", #[⟨12, .data⟩, ⟨17, .data⟩], none⟩ ?_ (.inl ⟨by rfl, ?_⟩) hS ?_
            rotate_left
            · (intro w hSw; (try dsimp only at hSw); go_simp; (try with_reducible rfl))
            try simp only [Act.put, sb, s0, sz]
            refine takeW 19 ⟨some 37, .move (.tmp 36), 4, "ref.go:55", #[⟨18, .data⟩, ⟨16, .chain⟩], none⟩ ?_ (.inl ⟨by rfl, ?_⟩) hS ?_
            rotate_left
            · (intro w hSw; (try dsimp only at hSw); go_simp; (try with_reducible rfl))
            try simp only [Act.put, sb, s0, sz]
            refine takeW 20 ⟨some 38, .load 33 (.tmp 2), 33, "ref.go:55", #[⟨19, .guard⟩], some (19, false)⟩ undef (.inr ⟨by rfl, rfl⟩) hS ?_; try simp only [Act.put, sb, s0, sz]
            refine takeW 21 ⟨some 39, .fieldAddr 41 (.tmp 3) 0, 0, "ref.go:55", #[⟨19, .guard⟩], some (19, false)⟩ undef (.inr ⟨by rfl, rfl⟩) hS ?_; try simp only [Act.put, sb, s0, sz]
            refine takeW 22 ⟨some 40, .load 9 (.tmp 39), 9, "ref.go:55", #[⟨21, .data⟩, ⟨19, .guard⟩], some (19, false)⟩ undef (.inr ⟨by rfl, rfl⟩) hS ?_; try simp only [Act.put, sb, s0, sz]
            refine takeW 23 ⟨some 41, .call { callee := .value (.func 51), args := #[.tmp 40], argTypes := #[9] }, 9, "ref.go:55", #[⟨22, .data⟩, ⟨19, .chain⟩, ⟨19, .guard⟩], some (19, false)⟩ undef (.inr ⟨by rfl, rfl⟩) hS ?_; try simp only [Act.put, sb, s0, sz]
            refine takeW 24 ⟨some 42, .call { callee := .value (.func 50), args := #[.tmp 38, .tmp 41], argTypes := #[33, 9] }, 4, "ref.go:55", #[⟨20, .data⟩, ⟨23, .data⟩, ⟨23, .chain⟩, ⟨19, .guard⟩], some (19, false)⟩ undef (.inr ⟨by rfl, rfl⟩) hS ?_; try simp only [Act.put, sb, s0, sz]
            refine takeW 25 ⟨some 43, .unOp Go.UnOp.not 4 (.tmp 42), 4, "ref.go:55", #[⟨24, .data⟩, ⟨19, .guard⟩], some (19, false)⟩ undef (.inr ⟨by rfl, rfl⟩) hS ?_; try simp only [Act.put, sb, s0, sz]
            refine takeW 26 ⟨some 44, .pick (.tmp 37) (.const (.bool true)) (.tmp 43), 4, "ref.go:55", #[⟨19, .data⟩, ⟨25, .data⟩], none⟩ ?_ (.inl ⟨by rfl, ?_⟩) hS ?_
            rotate_left
            · (intro w hSw; (try dsimp only at hSw); go_simp; (try with_reducible rfl))
            try simp only [Act.put, sb, s0, sz]
            refine wpAnyH_done (by kernel_rfl) ?_ _
            replace hE := hA1
            clear hS
            try clear hA1
            try clear hA2
            try clear hA3
            clear HE2
            go_wp2_with (first
              | go_skip
              | ((with_reducible (show Go.wpList _ _ _ (Go.Oper.mk _ (.load 33 _) _ _ _ _ :: _) _ _)); (first | (refine wpl_loadW hE 0 rfl rfl rfl rfl Tryd.isAgg33 Tryd.sizeOf33 rfl ?_) | (refine wpl_loadW hE 1 rfl rfl rfl rfl Tryd.isAgg33 Tryd.sizeOf33 rfl ?_) | (refine wpl_loadW hE 2 rfl rfl rfl rfl Tryd.isAgg33 Tryd.sizeOf33 rfl ?_) | (refine wpl_loadW hE 3 rfl rfl rfl rfl Tryd.isAgg33 Tryd.sizeOf33 rfl ?_) | (refine wpl_loadW hE 4 rfl rfl rfl rfl Tryd.isAgg33 Tryd.sizeOf33 rfl ?_) | (refine wpl_loadW hE 5 rfl rfl rfl rfl Tryd.isAgg33 Tryd.sizeOf33 rfl ?_) | (refine wpl_loadW hE 6 rfl rfl rfl rfl Tryd.isAgg33 Tryd.sizeOf33 rfl ?_) | (refine wpl_loadW hE 7 rfl rfl rfl rfl Tryd.isAgg33 Tryd.sizeOf33 rfl ?_)))
              | ((with_reducible (show Go.wpList _ _ _ (Go.Oper.mk _ (.store 33 _ _) _ _ _ _ :: _) _ _)); (first | (refine wpl_storeW hE 0 rfl rfl rfl (xs := [.slice ao L.length c]) rfl rfl Tryd.sizeOf33 rfl (by simp [Value.oneCell']) rfl ?_) | (refine wpl_storeW hE 1 rfl rfl rfl (xs := [.slice ao L.length c]) rfl rfl Tryd.sizeOf33 rfl (by simp [Value.oneCell']) rfl ?_) | (refine wpl_storeW hE 2 rfl rfl rfl (xs := [.slice ao L.length c]) rfl rfl Tryd.sizeOf33 rfl (by simp [Value.oneCell']) rfl ?_) | (refine wpl_storeW hE 3 rfl rfl rfl (xs := [.slice ao L.length c]) rfl rfl Tryd.sizeOf33 rfl (by simp [Value.oneCell']) rfl ?_) | (refine wpl_storeW hE 4 rfl rfl rfl (xs := [.slice ao L.length c]) rfl rfl Tryd.sizeOf33 rfl (by simp [Value.oneCell']) rfl ?_) | (refine wpl_storeW hE 5 rfl rfl rfl (xs := [.slice ao L.length c]) rfl rfl Tryd.sizeOf33 rfl (by simp [Value.oneCell']) rfl ?_) | (refine wpl_storeW hE 6 rfl rfl rfl (xs := [.slice ao L.length c]) rfl rfl Tryd.sizeOf33 rfl (by simp [Value.oneCell']) rfl ?_) | (refine wpl_storeW hE 7 rfl rfl rfl (xs := [.slice ao L.length c]) rfl rfl Tryd.sizeOf33 rfl (by simp [Value.oneCell']) rfl ?_)); clear hE; intro w hE; simp only [List.set_cons_zero, List.set_cons_succ] at hE))
            refine bodyPost_ret (results_cell2 rfl hE 0 rfl rfl Tryd.isAgg33 Tryd.sizeOf33 rfl rfl) rfl ?_
            exact ⟨_, rfl, AddPost.bad HB.out (m := [_, _, _]) hE⟩
          · cases dd with
            | false =>
              have HB := SL.hid (show addE L _ = 8 ∧ (8 : Int) ≠ 0 from ⟨HE2.out.trans (if_pos (.inr (.inr (.inr rfl)))), by decide⟩)
              refine wp_region_held_drew (S := (fun w' => ((Instr.loadAt 9 (.pointer (some ⟨b3, 0, none⟩))).run Tryd.prog w' = .ok (.string ⟨xp.toArray⟩) w') ∧ ((Instr.loadAt 4 (.pointer (some ⟨b3, 1, none⟩))).run Tryd.prog w' = .ok (.bool true) w') ∧ ((Instr.loadAt 9 (.pointer (some ⟨b3, 2, none⟩))).run Tryd.prog w' = .ok (.string ⟨xb.toArray⟩) w') ∧ ((Instr.loadAt 33 (.pointer (some ⟨b2, 0, none⟩))).run Tryd.prog w' = .ok (.agg [.slice ao L.length c].toArray) w'))) (by kernel_rfl) ⟨(atVm hE.drew (by repeat (first | exact List.Mem.head _ | refine List.Mem.tail _ ?_)) (by simp [go_sem]) rfl), (atVm hE.drew (by repeat (first | exact List.Mem.head _ | refine List.Mem.tail _ ?_)) (by simp [go_sem]) rfl), (atVm hE.drew (by repeat (first | exact List.Mem.head _ | refine List.Mem.tail _ ?_)) (by simp [go_sem]) rfl), (atWm hE.drew (by repeat (first | exact List.Mem.head _ | refine List.Mem.tail _ ?_)) Tryd.isAgg33 Tryd.sizeOf33 rfl)⟩ (fun hS => ?_)
              refine takeW 0 ⟨some 18, .fieldAddr 41 (.tmp 3) 0, 0, "ref.go:55", #[], none⟩ ?_ (.inl ⟨by rfl, ?_⟩) hS ?_
              rotate_left
              · (intro w hSw; (try dsimp only at hSw); go_simp; (try with_reducible rfl))
              try simp only [Act.put, sb, s0, sz]
              refine takeW 1 ⟨some 19, .load 9 (.tmp 18), 9, "ref.go:55", #[⟨0, .data⟩], none⟩ ?_ (.inl ⟨by rfl, ?_⟩) hS ?_
              rotate_left
              · (intro w hSw; (try dsimp only at hSw); go_simp; (try with_reducible rfl))
              try simp only [Act.put, sb, s0, sz]
              refine takeW 2 ⟨some 20, .binOp .eql 9 (.tmp 19) (.const (.string { data := #[] })) 9, 4, "ref.go:55", #[⟨1, .data⟩], none⟩ ?_ (.inl ⟨by rfl, ?_⟩) hS ?_
              rotate_left
              · (intro w hSw; (try dsimp only at hSw); go_simp; (try with_reducible rfl))
              try simp only [Act.put, sb, s0, sz]
              refine takeW 3 ⟨some 21, .move (.tmp 20), 4, "ref.go:55", #[⟨2, .data⟩], none⟩ ?_ (.inl ⟨by rfl, ?_⟩) hS ?_
              rotate_left
              · (intro w hSw; (try dsimp only at hSw); go_simp; (try with_reducible rfl))
              try simp only [Act.put, sb, s0, sz]
              refine takeW 4 ⟨some 22, .fieldAddr 41 (.tmp 3) 1, 0, "ref.go:55", #[⟨3, .guard⟩], some (3, false)⟩ ?_ (.inl ⟨by rfl, ?_⟩) hS ?_
              rotate_left
              · (intro w hSw; (try dsimp only at hSw); go_simp; (try with_reducible rfl))
              try simp only [Act.put, sb, s0, sz]
              refine takeW 5 ⟨some 23, .load 4 (.tmp 22), 4, "ref.go:55", #[⟨4, .data⟩, ⟨3, .guard⟩], some (3, false)⟩ ?_ (.inl ⟨by rfl, ?_⟩) hS ?_
              rotate_left
              · (intro w hSw; (try dsimp only at hSw); go_simp; (try with_reducible rfl))
              try simp only [Act.put, sb, s0, sz]
              refine takeW 6 ⟨some 24, .move (.tmp 23), 4, "ref.go:55", #[⟨5, .data⟩, ⟨3, .chain⟩, ⟨3, .guard⟩], some (3, false)⟩ ?_ (.inl ⟨by rfl, ?_⟩) hS ?_
              rotate_left
              · (intro w hSw; (try dsimp only at hSw); go_simp; (try with_reducible rfl))
              try simp only [Act.put, sb, s0, sz]
              refine takeW 7 ⟨some 25, .fieldAddr 41 (.tmp 3) 2, 0, "ref.go:55", #[⟨6, .guard⟩], some (6, true)⟩ ?_ (.inl ⟨by rfl, ?_⟩) hS ?_
              rotate_left
              · (intro w hSw; (try dsimp only at hSw); go_simp; (try with_reducible rfl))
              try simp only [Act.put, sb, s0, sz]
              refine takeW 8 ⟨some 26, .load 9 (.tmp 25), 9, "ref.go:55", #[⟨7, .data⟩, ⟨6, .guard⟩], some (6, true)⟩ ?_ (.inl ⟨by rfl, ?_⟩) hS ?_
              rotate_left
              · (intro w hSw; (try dsimp only at hSw); go_simp; (try with_reducible rfl))
              try simp only [Act.put, sb, s0, sz]
              refine takeW 9 ⟨some 27, .binOp .neq 9 (.tmp 26) (.const (.string { data := #[] })) 9, 4, "ref.go:55", #[⟨8, .data⟩, ⟨6, .guard⟩], some (6, true)⟩ ?_ (.inl ⟨by rfl, ?_⟩) hS ?_
              rotate_left
              · (intro w hSw; (try dsimp only at hSw); go_simp; (try with_reducible rfl))
              try simp only [Act.put, sb, s0, sz]
              refine takeW 10 ⟨some 28, .pick (.tmp 24) (.tmp 27) (.const (.bool false)), 4, "ref.go:55", #[⟨6, .data⟩, ⟨9, .data⟩, ⟨3, .guard⟩], some (3, false)⟩ ?_ (.inl ⟨by rfl, ?_⟩) hS ?_
              rotate_left
              · (intro w hSw; (try dsimp only at hSw); go_simp; (try with_reducible rfl))
              try simp only [Act.put, sb, s0, sz]
              refine takeW 11 ⟨some 29, .pick (.tmp 21) (.const (.bool true)) (.tmp 28), 4, "ref.go:55", #[⟨3, .data⟩, ⟨10, .data⟩], none⟩ ?_ (.inl ⟨by rfl, ?_⟩) hS ?_
              rotate_left
              · (intro w hSw; (try dsimp only at hSw); go_simp; (try with_reducible rfl))
              try simp only [Act.put, sb, s0, sz]
              refine takeW 12 ⟨some 30, .move (.tmp 29), 4, "ref.go:55", #[⟨11, .data⟩, ⟨6, .chain⟩], none⟩ ?_ (.inl ⟨by rfl, ?_⟩) hS ?_
              rotate_left
              · (intro w hSw; (try dsimp only at hSw); go_simp; (try with_reducible rfl))
              try simp only [Act.put, sb, s0, sz]
              refine takeW 13 ⟨some 31, .load 33 (.tmp 2), 33, "ref.go:55", #[⟨12, .guard⟩], some (12, false)⟩ ?_ (.inl ⟨by rfl, ?_⟩) hS ?_
              rotate_left
              · (intro w hSw; (try dsimp only at hSw); go_simp; (try with_reducible rfl))
              try simp only [Act.put, sb, s0, sz]
              refine takeW 14 ⟨some 32, .fieldAddr 41 (.tmp 3) 0, 0, "ref.go:55", #[⟨12, .guard⟩], some (12, false)⟩ ?_ (.inl ⟨by rfl, ?_⟩) hS ?_
              rotate_left
              · (intro w hSw; (try dsimp only at hSw); go_simp; (try with_reducible rfl))
              try simp only [Act.put, sb, s0, sz]
              refine takeW 15 ⟨some 33, .load 9 (.tmp 32), 9, "ref.go:55", #[⟨14, .data⟩, ⟨12, .guard⟩], some (12, false)⟩ ?_ (.inl ⟨by rfl, ?_⟩) hS ?_
              rotate_left
              · (intro w hSw; (try dsimp only at hSw); go_simp; (try with_reducible rfl))
              try simp only [Act.put, sb, s0, sz]
              refine wpAnyH_ready (rs := [16]) (by kernel_rfl) (by simp) ?_
              refine (AllReadyH.cons (o := { dst := some 34, op := Go.Op.call { callee := Go.Callee.value (Go.Operand.func 49), args := #[Go.Operand.tmp 31, Go.Operand.tmp 33], argTypes := #[33, 9] }, type := 3, pos := "ref.go:55", after := #[{ on := 13, ground := Go.Ground.data }, { on := 15, ground := Go.Ground.data }, { on := 12, ground := Go.Ground.chain }, { on := 12, ground := Go.Ground.guard }], guard := some (12, false) }) rfl (fun K hK => ?_) AllReadyH.nil)
              (go_simp; refine (HAt.out _ _ (by repeat (first | exact List.suffix_refl _ | refine List.IsSuffix.trans ?_ (List.suffix_cons _ _))) hE.drew).mono ?_; rintro e w3 ⟨v, rfl, rfl, hA1⟩)
              refine hK.out _ _ ⟨(atVm hA1 (by repeat (first | exact List.Mem.head _ | refine List.Mem.tail _ ?_)) (by simp [go_sem]) rfl), (atVm hA1 (by repeat (first | exact List.Mem.head _ | refine List.Mem.tail _ ?_)) (by simp [go_sem]) rfl), (atVm hA1 (by repeat (first | exact List.Mem.head _ | refine List.Mem.tail _ ?_)) (by simp [go_sem]) rfl), (atWm hA1 (by repeat (first | exact List.Mem.head _ | refine List.Mem.tail _ ?_)) Tryd.isAgg33 Tryd.sizeOf33 rfl)⟩ (fun hS => ?_)
              clear hK K
              try simp only [Act.put, sb, s0, sz]
              refine takeW 17 ⟨some 35, .binOp .geq 3 (.tmp 34) (.const (.int .i64 0)) 3, 4, "ref.go:55", #[⟨16, .data⟩, ⟨12, .guard⟩], some (12, false)⟩ ?_ (.inl ⟨by rfl, ?_⟩) hS ?_
              rotate_left
              · (intro w hSw; (try dsimp only at hSw); go_simp; (try with_reducible rfl))
              try simp only [Act.put, sb, s0, sz]
              refine takeW 18 ⟨some 36, .pick (.tmp 30) (.const (.bool true)) (.tmp 35), 4, "ref.go:55", #[⟨12, .data⟩, ⟨17, .data⟩], none⟩ ?_ (.inl ⟨by rfl, ?_⟩) hS ?_
              rotate_left
              · (intro w hSw; (try dsimp only at hSw); go_simp; (try with_reducible rfl))
              try simp only [Act.put, sb, s0, sz]
              refine takeW 19 ⟨some 37, .move (.tmp 36), 4, "ref.go:55", #[⟨18, .data⟩, ⟨16, .chain⟩], none⟩ ?_ (.inl ⟨by rfl, ?_⟩) hS ?_
              rotate_left
              · (intro w hSw; (try dsimp only at hSw); go_simp; (try with_reducible rfl))
              try simp only [Act.put, sb, s0, sz]
              refine takeW 20 ⟨some 38, .load 33 (.tmp 2), 33, "ref.go:55", #[⟨19, .guard⟩], some (19, false)⟩ ?_ (.inl ⟨by rfl, ?_⟩) hS ?_
              rotate_left
              · (intro w hSw; (try dsimp only at hSw); go_simp; (try with_reducible rfl))
              try simp only [Act.put, sb, s0, sz]
              refine takeW 21 ⟨some 39, .fieldAddr 41 (.tmp 3) 0, 0, "ref.go:55", #[⟨19, .guard⟩], some (19, false)⟩ ?_ (.inl ⟨by rfl, ?_⟩) hS ?_
              rotate_left
              · (intro w hSw; (try dsimp only at hSw); go_simp; (try with_reducible rfl))
              try simp only [Act.put, sb, s0, sz]
              refine takeW 22 ⟨some 40, .load 9 (.tmp 39), 9, "ref.go:55", #[⟨21, .data⟩, ⟨19, .guard⟩], some (19, false)⟩ ?_ (.inl ⟨by rfl, ?_⟩) hS ?_
              rotate_left
              · (intro w hSw; (try dsimp only at hSw); go_simp; (try with_reducible rfl))
              try simp only [Act.put, sb, s0, sz]
              refine wpAnyH_ready (rs := [23]) (by kernel_rfl) (by simp) ?_
              refine (AllReadyH.cons (o := { dst := some 41, op := Go.Op.call { callee := Go.Callee.value (Go.Operand.func 51), args := #[Go.Operand.tmp 40], argTypes := #[9] }, type := 9, pos := "ref.go:55", after := #[{ on := 22, ground := Go.Ground.data }, { on := 19, ground := Go.Ground.chain }, { on := 19, ground := Go.Ground.guard }], guard := some (19, false) }) rfl (fun K hK => ?_) AllReadyH.nil)
              (go_simp; refine (HPa.out _ _ hA1).mono ?_; rintro e w4 ⟨v, rfl, rfl, hA2⟩)
              refine hK.out _ _ ⟨(atVm hA2 (by repeat (first | exact List.Mem.head _ | refine List.Mem.tail _ ?_)) (by simp [go_sem]) rfl), (atVm hA2 (by repeat (first | exact List.Mem.head _ | refine List.Mem.tail _ ?_)) (by simp [go_sem]) rfl), (atVm hA2 (by repeat (first | exact List.Mem.head _ | refine List.Mem.tail _ ?_)) (by simp [go_sem]) rfl), (atWm hA2 (by repeat (first | exact List.Mem.head _ | refine List.Mem.tail _ ?_)) Tryd.isAgg33 Tryd.sizeOf33 rfl)⟩ (fun hS => ?_)
              clear hK K
              try simp only [Act.put, sb, s0, sz]
              refine wpAnyH_ready (rs := [24]) (by kernel_rfl) (by simp) ?_
              refine (AllReadyH.cons (o := { dst := some 42, op := Go.Op.call { callee := Go.Callee.value (Go.Operand.func 50), args := #[Go.Operand.tmp 38, Go.Operand.tmp 41], argTypes := #[33, 9] }, type := 4, pos := "ref.go:55", after := #[{ on := 20, ground := Go.Ground.data }, { on := 23, ground := Go.Ground.data }, { on := 23, ground := Go.Ground.chain }, { on := 19, ground := Go.Ground.guard }], guard := some (19, false) }) rfl (fun K hK => ?_) AllReadyH.nil)
              (go_simp; refine (HDi.out _ _ (by repeat (first | exact List.suffix_refl _ | refine List.IsSuffix.trans ?_ (List.suffix_cons _ _))) hA2).mono ?_; rintro e w5 ⟨v, rfl, rfl, hA3⟩)
              refine hK.out _ _ ⟨(atVm hA3 (by repeat (first | exact List.Mem.head _ | refine List.Mem.tail _ ?_)) (by simp [go_sem]) rfl), (atVm hA3 (by repeat (first | exact List.Mem.head _ | refine List.Mem.tail _ ?_)) (by simp [go_sem]) rfl), (atVm hA3 (by repeat (first | exact List.Mem.head _ | refine List.Mem.tail _ ?_)) (by simp [go_sem]) rfl), (atWm hA3 (by repeat (first | exact List.Mem.head _ | refine List.Mem.tail _ ?_)) Tryd.isAgg33 Tryd.sizeOf33 rfl)⟩ (fun hS => ?_)
              clear hK K
              try simp only [Act.put, sb, s0, sz]
              refine takeW 25 ⟨some 43, .unOp Go.UnOp.not 4 (.tmp 42), 4, "ref.go:55", #[⟨24, .data⟩, ⟨19, .guard⟩], some (19, false)⟩ ?_ (.inl ⟨by rfl, ?_⟩) hS ?_
              rotate_left
              · (intro w hSw; (try dsimp only at hSw); go_simp; (try with_reducible rfl))
              try simp only [Act.put, sb, s0, sz]
              refine takeW 26 ⟨some 44, .pick (.tmp 37) (.const (.bool true)) (.tmp 43), 4, "ref.go:55", #[⟨19, .data⟩, ⟨25, .data⟩], none⟩ ?_ (.inl ⟨by rfl, ?_⟩) hS ?_
              rotate_left
              · (intro w hSw; (try dsimp only at hSw); go_simp; (try with_reducible rfl))
              try simp only [Act.put, sb, s0, sz]
              refine wpAnyH_done (by kernel_rfl) ?_ _
              replace hE := hA3
              clear hS
              try clear hA1
              try clear hA2
              try clear hA3
              clear HE2
              go_wp2_with (first
                | go_skip
                | ((with_reducible (show Go.wpList _ _ _ (Go.Oper.mk _ (.load 33 _) _ _ _ _ :: _) _ _)); (first | (refine wpl_loadW hE 0 rfl rfl rfl rfl Tryd.isAgg33 Tryd.sizeOf33 rfl ?_) | (refine wpl_loadW hE 1 rfl rfl rfl rfl Tryd.isAgg33 Tryd.sizeOf33 rfl ?_) | (refine wpl_loadW hE 2 rfl rfl rfl rfl Tryd.isAgg33 Tryd.sizeOf33 rfl ?_) | (refine wpl_loadW hE 3 rfl rfl rfl rfl Tryd.isAgg33 Tryd.sizeOf33 rfl ?_) | (refine wpl_loadW hE 4 rfl rfl rfl rfl Tryd.isAgg33 Tryd.sizeOf33 rfl ?_) | (refine wpl_loadW hE 5 rfl rfl rfl rfl Tryd.isAgg33 Tryd.sizeOf33 rfl ?_) | (refine wpl_loadW hE 6 rfl rfl rfl rfl Tryd.isAgg33 Tryd.sizeOf33 rfl ?_) | (refine wpl_loadW hE 7 rfl rfl rfl rfl Tryd.isAgg33 Tryd.sizeOf33 rfl ?_)))
                | ((with_reducible (show Go.wpList _ _ _ (Go.Oper.mk _ (.store 33 _ _) _ _ _ _ :: _) _ _)); (first | (refine wpl_storeW hE 0 rfl rfl rfl (xs := [.slice ao L.length c]) rfl rfl Tryd.sizeOf33 rfl (by simp [Value.oneCell']) rfl ?_) | (refine wpl_storeW hE 1 rfl rfl rfl (xs := [.slice ao L.length c]) rfl rfl Tryd.sizeOf33 rfl (by simp [Value.oneCell']) rfl ?_) | (refine wpl_storeW hE 2 rfl rfl rfl (xs := [.slice ao L.length c]) rfl rfl Tryd.sizeOf33 rfl (by simp [Value.oneCell']) rfl ?_) | (refine wpl_storeW hE 3 rfl rfl rfl (xs := [.slice ao L.length c]) rfl rfl Tryd.sizeOf33 rfl (by simp [Value.oneCell']) rfl ?_) | (refine wpl_storeW hE 4 rfl rfl rfl (xs := [.slice ao L.length c]) rfl rfl Tryd.sizeOf33 rfl (by simp [Value.oneCell']) rfl ?_) | (refine wpl_storeW hE 5 rfl rfl rfl (xs := [.slice ao L.length c]) rfl rfl Tryd.sizeOf33 rfl (by simp [Value.oneCell']) rfl ?_) | (refine wpl_storeW hE 6 rfl rfl rfl (xs := [.slice ao L.length c]) rfl rfl Tryd.sizeOf33 rfl (by simp [Value.oneCell']) rfl ?_) | (refine wpl_storeW hE 7 rfl rfl rfl (xs := [.slice ao L.length c]) rfl rfl Tryd.sizeOf33 rfl (by simp [Value.oneCell']) rfl ?_)); clear hE; intro w hE; simp only [List.set_cons_zero, List.set_cons_succ] at hE))
              refine bodyPost_ret (results_cell2 rfl hE 0 rfl rfl Tryd.isAgg33 Tryd.sizeOf33 rfl rfl) rfl ?_
              exact ⟨_, rfl, AddPost.bad HB.out (m := [_, _, _]) hE⟩
            | true =>
              have HE3 := SL.hid (HE2.out.trans (if_neg (by have h1 : xp ≠ [] := (by simpa using hA); have h2 : xb = [] := (by simpa using hB); simp [h1, hC, h2])))
              clear HE2
              refine wp_region_held_drew (S := (fun w' => ((Instr.loadAt 9 (.pointer (some ⟨b3, 0, none⟩))).run Tryd.prog w' = .ok (.string ⟨xp.toArray⟩) w') ∧ ((Instr.loadAt 4 (.pointer (some ⟨b3, 1, none⟩))).run Tryd.prog w' = .ok (.bool true) w') ∧ ((Instr.loadAt 9 (.pointer (some ⟨b3, 2, none⟩))).run Tryd.prog w' = .ok (.string ⟨xb.toArray⟩) w') ∧ ((Instr.loadAt 33 (.pointer (some ⟨b2, 0, none⟩))).run Tryd.prog w' = .ok (.agg [.slice ao L.length c].toArray) w'))) (by kernel_rfl) ⟨(atVm hE.drew (by repeat (first | exact List.Mem.head _ | refine List.Mem.tail _ ?_)) (by simp [go_sem]) rfl), (atVm hE.drew (by repeat (first | exact List.Mem.head _ | refine List.Mem.tail _ ?_)) (by simp [go_sem]) rfl), (atVm hE.drew (by repeat (first | exact List.Mem.head _ | refine List.Mem.tail _ ?_)) (by simp [go_sem]) rfl), (atWm hE.drew (by repeat (first | exact List.Mem.head _ | refine List.Mem.tail _ ?_)) Tryd.isAgg33 Tryd.sizeOf33 rfl)⟩ (fun hS => ?_)
              refine takeW 0 ⟨some 18, .fieldAddr 41 (.tmp 3) 0, 0, "ref.go:55", #[], none⟩ ?_ (.inl ⟨by rfl, ?_⟩) hS ?_
              rotate_left
              · (intro w hSw; (try dsimp only at hSw); go_simp; (try with_reducible rfl))
              try simp only [Act.put, sb, s0, sz]
              refine takeW 1 ⟨some 19, .load 9 (.tmp 18), 9, "ref.go:55", #[⟨0, .data⟩], none⟩ ?_ (.inl ⟨by rfl, ?_⟩) hS ?_
              rotate_left
              · (intro w hSw; (try dsimp only at hSw); go_simp; (try with_reducible rfl))
              try simp only [Act.put, sb, s0, sz]
              refine takeW 2 ⟨some 20, .binOp .eql 9 (.tmp 19) (.const (.string { data := #[] })) 9, 4, "ref.go:55", #[⟨1, .data⟩], none⟩ ?_ (.inl ⟨by rfl, ?_⟩) hS ?_
              rotate_left
              · (intro w hSw; (try dsimp only at hSw); go_simp; (try with_reducible rfl))
              try simp only [Act.put, sb, s0, sz]
              refine takeW 3 ⟨some 21, .move (.tmp 20), 4, "ref.go:55", #[⟨2, .data⟩], none⟩ ?_ (.inl ⟨by rfl, ?_⟩) hS ?_
              rotate_left
              · (intro w hSw; (try dsimp only at hSw); go_simp; (try with_reducible rfl))
              try simp only [Act.put, sb, s0, sz]
              refine takeW 4 ⟨some 22, .fieldAddr 41 (.tmp 3) 1, 0, "ref.go:55", #[⟨3, .guard⟩], some (3, false)⟩ ?_ (.inl ⟨by rfl, ?_⟩) hS ?_
              rotate_left
              · (intro w hSw; (try dsimp only at hSw); go_simp; (try with_reducible rfl))
              try simp only [Act.put, sb, s0, sz]
              refine takeW 5 ⟨some 23, .load 4 (.tmp 22), 4, "ref.go:55", #[⟨4, .data⟩, ⟨3, .guard⟩], some (3, false)⟩ ?_ (.inl ⟨by rfl, ?_⟩) hS ?_
              rotate_left
              · (intro w hSw; (try dsimp only at hSw); go_simp; (try with_reducible rfl))
              try simp only [Act.put, sb, s0, sz]
              refine takeW 6 ⟨some 24, .move (.tmp 23), 4, "ref.go:55", #[⟨5, .data⟩, ⟨3, .chain⟩, ⟨3, .guard⟩], some (3, false)⟩ ?_ (.inl ⟨by rfl, ?_⟩) hS ?_
              rotate_left
              · (intro w hSw; (try dsimp only at hSw); go_simp; (try with_reducible rfl))
              try simp only [Act.put, sb, s0, sz]
              refine takeW 7 ⟨some 25, .fieldAddr 41 (.tmp 3) 2, 0, "ref.go:55", #[⟨6, .guard⟩], some (6, true)⟩ ?_ (.inl ⟨by rfl, ?_⟩) hS ?_
              rotate_left
              · (intro w hSw; (try dsimp only at hSw); go_simp; (try with_reducible rfl))
              try simp only [Act.put, sb, s0, sz]
              refine takeW 8 ⟨some 26, .load 9 (.tmp 25), 9, "ref.go:55", #[⟨7, .data⟩, ⟨6, .guard⟩], some (6, true)⟩ ?_ (.inl ⟨by rfl, ?_⟩) hS ?_
              rotate_left
              · (intro w hSw; (try dsimp only at hSw); go_simp; (try with_reducible rfl))
              try simp only [Act.put, sb, s0, sz]
              refine takeW 9 ⟨some 27, .binOp .neq 9 (.tmp 26) (.const (.string { data := #[] })) 9, 4, "ref.go:55", #[⟨8, .data⟩, ⟨6, .guard⟩], some (6, true)⟩ ?_ (.inl ⟨by rfl, ?_⟩) hS ?_
              rotate_left
              · (intro w hSw; (try dsimp only at hSw); go_simp; (try with_reducible rfl))
              try simp only [Act.put, sb, s0, sz]
              refine takeW 10 ⟨some 28, .pick (.tmp 24) (.tmp 27) (.const (.bool false)), 4, "ref.go:55", #[⟨6, .data⟩, ⟨9, .data⟩, ⟨3, .guard⟩], some (3, false)⟩ ?_ (.inl ⟨by rfl, ?_⟩) hS ?_
              rotate_left
              · (intro w hSw; (try dsimp only at hSw); go_simp; (try with_reducible rfl))
              try simp only [Act.put, sb, s0, sz]
              refine takeW 11 ⟨some 29, .pick (.tmp 21) (.const (.bool true)) (.tmp 28), 4, "ref.go:55", #[⟨3, .data⟩, ⟨10, .data⟩], none⟩ ?_ (.inl ⟨by rfl, ?_⟩) hS ?_
              rotate_left
              · (intro w hSw; (try dsimp only at hSw); go_simp; (try with_reducible rfl))
              try simp only [Act.put, sb, s0, sz]
              refine takeW 12 ⟨some 30, .move (.tmp 29), 4, "ref.go:55", #[⟨11, .data⟩, ⟨6, .chain⟩], none⟩ ?_ (.inl ⟨by rfl, ?_⟩) hS ?_
              rotate_left
              · (intro w hSw; (try dsimp only at hSw); go_simp; (try with_reducible rfl))
              try simp only [Act.put, sb, s0, sz]
              refine takeW 13 ⟨some 31, .load 33 (.tmp 2), 33, "ref.go:55", #[⟨12, .guard⟩], some (12, false)⟩ ?_ (.inl ⟨by rfl, ?_⟩) hS ?_
              rotate_left
              · (intro w hSw; (try dsimp only at hSw); go_simp; (try with_reducible rfl))
              try simp only [Act.put, sb, s0, sz]
              refine takeW 14 ⟨some 32, .fieldAddr 41 (.tmp 3) 0, 0, "ref.go:55", #[⟨12, .guard⟩], some (12, false)⟩ ?_ (.inl ⟨by rfl, ?_⟩) hS ?_
              rotate_left
              · (intro w hSw; (try dsimp only at hSw); go_simp; (try with_reducible rfl))
              try simp only [Act.put, sb, s0, sz]
              refine takeW 15 ⟨some 33, .load 9 (.tmp 32), 9, "ref.go:55", #[⟨14, .data⟩, ⟨12, .guard⟩], some (12, false)⟩ ?_ (.inl ⟨by rfl, ?_⟩) hS ?_
              rotate_left
              · (intro w hSw; (try dsimp only at hSw); go_simp; (try with_reducible rfl))
              try simp only [Act.put, sb, s0, sz]
              refine wpAnyH_ready (rs := [16]) (by kernel_rfl) (by simp) ?_
              refine (AllReadyH.cons (o := { dst := some 34, op := Go.Op.call { callee := Go.Callee.value (Go.Operand.func 49), args := #[Go.Operand.tmp 31, Go.Operand.tmp 33], argTypes := #[33, 9] }, type := 3, pos := "ref.go:55", after := #[{ on := 13, ground := Go.Ground.data }, { on := 15, ground := Go.Ground.data }, { on := 12, ground := Go.Ground.chain }, { on := 12, ground := Go.Ground.guard }], guard := some (12, false) }) rfl (fun K hK => ?_) AllReadyH.nil)
              (go_simp; refine (HAt.out _ _ (by repeat (first | exact List.suffix_refl _ | refine List.IsSuffix.trans ?_ (List.suffix_cons _ _))) hE.drew).mono ?_; rintro e w3 ⟨v, rfl, rfl, hA1⟩)
              refine hK.out _ _ ⟨(atVm hA1 (by repeat (first | exact List.Mem.head _ | refine List.Mem.tail _ ?_)) (by simp [go_sem]) rfl), (atVm hA1 (by repeat (first | exact List.Mem.head _ | refine List.Mem.tail _ ?_)) (by simp [go_sem]) rfl), (atVm hA1 (by repeat (first | exact List.Mem.head _ | refine List.Mem.tail _ ?_)) (by simp [go_sem]) rfl), (atWm hA1 (by repeat (first | exact List.Mem.head _ | refine List.Mem.tail _ ?_)) Tryd.isAgg33 Tryd.sizeOf33 rfl)⟩ (fun hS => ?_)
              clear hK K
              try simp only [Act.put, sb, s0, sz]
              refine takeW 17 ⟨some 35, .binOp .geq 3 (.tmp 34) (.const (.int .i64 0)) 3, 4, "ref.go:55", #[⟨16, .data⟩, ⟨12, .guard⟩], some (12, false)⟩ ?_ (.inl ⟨by rfl, ?_⟩) hS ?_
              rotate_left
              · (intro w hSw; (try dsimp only at hSw); go_simp; (try with_reducible rfl))
              try simp only [Act.put, sb, s0, sz]
              refine takeW 18 ⟨some 36, .pick (.tmp 30) (.const (.bool true)) (.tmp 35), 4, "ref.go:55", #[⟨12, .data⟩, ⟨17, .data⟩], none⟩ ?_ (.inl ⟨by rfl, ?_⟩) hS ?_
              rotate_left
              · (intro w hSw; (try dsimp only at hSw); go_simp; (try with_reducible rfl))
              try simp only [Act.put, sb, s0, sz]
              refine takeW 19 ⟨some 37, .move (.tmp 36), 4, "ref.go:55", #[⟨18, .data⟩, ⟨16, .chain⟩], none⟩ ?_ (.inl ⟨by rfl, ?_⟩) hS ?_
              rotate_left
              · (intro w hSw; (try dsimp only at hSw); go_simp; (try with_reducible rfl))
              try simp only [Act.put, sb, s0, sz]
              refine takeW 20 ⟨some 38, .load 33 (.tmp 2), 33, "ref.go:55", #[⟨19, .guard⟩], some (19, false)⟩ ?_ (.inl ⟨by rfl, ?_⟩) hS ?_
              rotate_left
              · (intro w hSw; (try dsimp only at hSw); go_simp; (try with_reducible rfl))
              try simp only [Act.put, sb, s0, sz]
              refine takeW 21 ⟨some 39, .fieldAddr 41 (.tmp 3) 0, 0, "ref.go:55", #[⟨19, .guard⟩], some (19, false)⟩ ?_ (.inl ⟨by rfl, ?_⟩) hS ?_
              rotate_left
              · (intro w hSw; (try dsimp only at hSw); go_simp; (try with_reducible rfl))
              try simp only [Act.put, sb, s0, sz]
              refine takeW 22 ⟨some 40, .load 9 (.tmp 39), 9, "ref.go:55", #[⟨21, .data⟩, ⟨19, .guard⟩], some (19, false)⟩ ?_ (.inl ⟨by rfl, ?_⟩) hS ?_
              rotate_left
              · (intro w hSw; (try dsimp only at hSw); go_simp; (try with_reducible rfl))
              try simp only [Act.put, sb, s0, sz]
              refine wpAnyH_ready (rs := [23]) (by kernel_rfl) (by simp) ?_
              refine (AllReadyH.cons (o := { dst := some 41, op := Go.Op.call { callee := Go.Callee.value (Go.Operand.func 51), args := #[Go.Operand.tmp 40], argTypes := #[9] }, type := 9, pos := "ref.go:55", after := #[{ on := 22, ground := Go.Ground.data }, { on := 19, ground := Go.Ground.chain }, { on := 19, ground := Go.Ground.guard }], guard := some (19, false) }) rfl (fun K hK => ?_) AllReadyH.nil)
              (go_simp; refine (HPa.out _ _ hA1).mono ?_; rintro e w4 ⟨v, rfl, rfl, hA2⟩)
              refine hK.out _ _ ⟨(atVm hA2 (by repeat (first | exact List.Mem.head _ | refine List.Mem.tail _ ?_)) (by simp [go_sem]) rfl), (atVm hA2 (by repeat (first | exact List.Mem.head _ | refine List.Mem.tail _ ?_)) (by simp [go_sem]) rfl), (atVm hA2 (by repeat (first | exact List.Mem.head _ | refine List.Mem.tail _ ?_)) (by simp [go_sem]) rfl), (atWm hA2 (by repeat (first | exact List.Mem.head _ | refine List.Mem.tail _ ?_)) Tryd.isAgg33 Tryd.sizeOf33 rfl)⟩ (fun hS => ?_)
              clear hK K
              try simp only [Act.put, sb, s0, sz]
              refine wpAnyH_ready (rs := [24]) (by kernel_rfl) (by simp) ?_
              refine (AllReadyH.cons (o := { dst := some 42, op := Go.Op.call { callee := Go.Callee.value (Go.Operand.func 50), args := #[Go.Operand.tmp 38, Go.Operand.tmp 41], argTypes := #[33, 9] }, type := 4, pos := "ref.go:55", after := #[{ on := 20, ground := Go.Ground.data }, { on := 23, ground := Go.Ground.data }, { on := 23, ground := Go.Ground.chain }, { on := 19, ground := Go.Ground.guard }], guard := some (19, false) }) rfl (fun K hK => ?_) AllReadyH.nil)
              (go_simp; refine (HDi.out _ _ (by repeat (first | exact List.suffix_refl _ | refine List.IsSuffix.trans ?_ (List.suffix_cons _ _))) hA2).mono ?_; rintro e w5 ⟨v, rfl, rfl, hA3⟩)
              refine hK.out _ _ ⟨(atVm hA3 (by repeat (first | exact List.Mem.head _ | refine List.Mem.tail _ ?_)) (by simp [go_sem]) rfl), (atVm hA3 (by repeat (first | exact List.Mem.head _ | refine List.Mem.tail _ ?_)) (by simp [go_sem]) rfl), (atVm hA3 (by repeat (first | exact List.Mem.head _ | refine List.Mem.tail _ ?_)) (by simp [go_sem]) rfl), (atWm hA3 (by repeat (first | exact List.Mem.head _ | refine List.Mem.tail _ ?_)) Tryd.isAgg33 Tryd.sizeOf33 rfl)⟩ (fun hS => ?_)
              clear hK K
              try simp only [Act.put, sb, s0, sz]
              refine takeW 25 ⟨some 43, .unOp Go.UnOp.not 4 (.tmp 42), 4, "ref.go:55", #[⟨24, .data⟩, ⟨19, .guard⟩], some (19, false)⟩ ?_ (.inl ⟨by rfl, ?_⟩) hS ?_
              rotate_left
              · (intro w hSw; (try dsimp only at hSw); go_simp; (try with_reducible rfl))
              try simp only [Act.put, sb, s0, sz]
              refine takeW 26 ⟨some 44, .pick (.tmp 37) (.const (.bool true)) (.tmp 43), 4, "ref.go:55", #[⟨19, .data⟩, ⟨25, .data⟩], none⟩ ?_ (.inl ⟨by rfl, ?_⟩) hS ?_
              rotate_left
              · (intro w hSw; (try dsimp only at hSw); go_simp; (try with_reducible rfl))
              try simp only [Act.put, sb, s0, sz]
              refine wpAnyH_done (by kernel_rfl) ?_ _
              replace hE := hA3
              clear hS
              try clear hA1
              try clear hA2
              try clear hA3
              cases hG : decide ((8192 : Int) < (xb.length : Int)) with
              | true =>
                have hG2 := of_decide_eq_true hG
                have HB := SL.hid (show addE L _ = 6 ∧ (6 : Int) ≠ 0 from ⟨HE3.out.trans (if_pos (.inl (by omega))), by decide⟩)
                try clear hG2
                try clear h62
                go_wp2
                refine wp_region_held_drew (S := (fun w' => ((Instr.loadAt 9 (.pointer (some ⟨b3, 0, none⟩))).run Tryd.prog w' = .ok (.string ⟨xp.toArray⟩) w') ∧ ((Instr.loadAt 9 (.pointer (some ⟨b3, 2, none⟩))).run Tryd.prog w' = .ok (.string ⟨xb.toArray⟩) w') ∧ ((Instr.loadAt 33 (.pointer (some ⟨b2, 0, none⟩))).run Tryd.prog w' = .ok (.agg [.slice ao L.length c].toArray) w'))) (by kernel_rfl) ⟨(atVm hE.drew (by repeat (first | exact List.Mem.head _ | refine List.Mem.tail _ ?_)) (by simp [go_sem]) rfl), (atVm hE.drew (by repeat (first | exact List.Mem.head _ | refine List.Mem.tail _ ?_)) (by simp [go_sem]) rfl), (atWm hE.drew (by repeat (first | exact List.Mem.head _ | refine List.Mem.tail _ ?_)) Tryd.isAgg33 Tryd.sizeOf33 rfl)⟩ (fun hS => ?_)
                refine takeW 0 ⟨some 46, .fieldAddr 41 (.tmp 3) 2, 0, "ref.go:58", #[], none⟩ ?_ (.inl ⟨by rfl, ?_⟩) hS ?_
                rotate_left
                · (intro w hSw; (try dsimp only at hSw); go_simp; (try with_reducible rfl))
                try simp only [Act.put, sb, s0, sz]
                refine takeW 1 ⟨some 47, .load 9 (.tmp 46), 9, "ref.go:58", #[⟨0, .data⟩], none⟩ ?_ (.inl ⟨by rfl, ?_⟩) hS ?_
                rotate_left
                · (intro w hSw; (try dsimp only at hSw); go_simp; (try with_reducible rfl))
                try simp only [Act.put, sb, s0, sz]
                refine takeW 2 ⟨some 48, .call { callee := .builtin .len, args := #[.tmp 47], argTypes := #[9] }, 3, "ref.go:58", #[⟨1, .data⟩], none⟩ ?_ (.inl ⟨by rfl, ?_⟩) hS ?_
                rotate_left
                · (intro w hSw; (try dsimp only at hSw); go_simp; (try with_reducible rfl))
                try simp only [Act.put, sb, s0, sz]
                refine takeW 3 ⟨some 49, .binOp .gtr 3 (.tmp 48) (.const (.int .i64 8192)) 3, 4, "ref.go:58", #[⟨2, .data⟩], none⟩ ?_ (.inl ⟨by rfl, ?_⟩) hS ?_
                rotate_left
                · (intro w hSw; (try dsimp only at hSw); go_simp; (try with_reducible rfl))
                try simp only [Act.put, sb, s0, sz]
                refine takeW 4 ⟨some 50, .move (.tmp 49), 4, "ref.go:58", #[⟨3, .data⟩], none⟩ ?_ (.inl ⟨by rfl, ?_⟩) hS ?_
                rotate_left
                · (intro w hSw; (try dsimp only at hSw); go_simp; (try with_reducible rfl))
                try simp only [Act.put, sb, s0, sz]
                refine takeW 5 ⟨some 51, .load 33 (.tmp 2), 33, "ref.go:58", #[⟨4, .guard⟩], some (4, false)⟩ undef (.inr ⟨by rfl, rfl⟩) hS ?_; try simp only [Act.put, sb, s0, sz]
                refine takeW 6 ⟨some 52, .fieldAddr 41 (.tmp 3) 0, 0, "ref.go:58", #[⟨4, .guard⟩], some (4, false)⟩ undef (.inr ⟨by rfl, rfl⟩) hS ?_; try simp only [Act.put, sb, s0, sz]
                refine takeW 7 ⟨some 53, .load 9 (.tmp 52), 9, "ref.go:58", #[⟨6, .data⟩, ⟨4, .guard⟩], some (4, false)⟩ undef (.inr ⟨by rfl, rfl⟩) hS ?_; try simp only [Act.put, sb, s0, sz]
                refine takeW 8 ⟨some 54, .call { callee := .value (.func 51), args := #[.tmp 53], argTypes := #[9] }, 9, "ref.go:58", #[⟨7, .data⟩, ⟨4, .chain⟩, ⟨4, .guard⟩], some (4, false)⟩ undef (.inr ⟨by rfl, rfl⟩) hS ?_; try simp only [Act.put, sb, s0, sz]
                refine takeW 9 ⟨some 55, .call { callee := .value (.func 36), args := #[.tmp 51, .tmp 54], argTypes := #[33, 9] }, 72, "ref.go:58", #[⟨5, .data⟩, ⟨8, .data⟩, ⟨8, .chain⟩, ⟨4, .guard⟩], some (4, false)⟩ undef (.inr ⟨by rfl, rfl⟩) hS ?_; try simp only [Act.put, sb, s0, sz]
                refine takeW 10 ⟨some 56, .call { callee := .builtin .len, args := #[.tmp 55], argTypes := #[72] }, 3, "ref.go:58", #[⟨9, .data⟩, ⟨4, .guard⟩], some (4, false)⟩ undef (.inr ⟨by rfl, rfl⟩) hS ?_; try simp only [Act.put, sb, s0, sz]
                refine takeW 11 ⟨some 57, .binOp .geq 3 (.tmp 56) (.const (.int .i64 6)) 3, 4, "ref.go:58", #[⟨10, .data⟩, ⟨4, .guard⟩], some (4, false)⟩ undef (.inr ⟨by rfl, rfl⟩) hS ?_; try simp only [Act.put, sb, s0, sz]
                refine takeW 12 ⟨some 58, .pick (.tmp 50) (.const (.bool true)) (.tmp 57), 4, "ref.go:58", #[⟨4, .data⟩, ⟨11, .data⟩], none⟩ ?_ (.inl ⟨by rfl, ?_⟩) hS ?_
                rotate_left
                · (intro w hSw; (try dsimp only at hSw); go_simp; (try with_reducible rfl))
                try simp only [Act.put, sb, s0, sz]
                refine wpAnyH_done (by kernel_rfl) ?_ _
                replace hE := hE.drew
                clear hS
                clear HE3
                go_wp2_with (first
                  | go_skip
                  | ((with_reducible (show Go.wpList _ _ _ (Go.Oper.mk _ (.load 33 _) _ _ _ _ :: _) _ _)); (first | (refine wpl_loadW hE 0 rfl rfl rfl rfl Tryd.isAgg33 Tryd.sizeOf33 rfl ?_) | (refine wpl_loadW hE 1 rfl rfl rfl rfl Tryd.isAgg33 Tryd.sizeOf33 rfl ?_) | (refine wpl_loadW hE 2 rfl rfl rfl rfl Tryd.isAgg33 Tryd.sizeOf33 rfl ?_) | (refine wpl_loadW hE 3 rfl rfl rfl rfl Tryd.isAgg33 Tryd.sizeOf33 rfl ?_) | (refine wpl_loadW hE 4 rfl rfl rfl rfl Tryd.isAgg33 Tryd.sizeOf33 rfl ?_) | (refine wpl_loadW hE 5 rfl rfl rfl rfl Tryd.isAgg33 Tryd.sizeOf33 rfl ?_) | (refine wpl_loadW hE 6 rfl rfl rfl rfl Tryd.isAgg33 Tryd.sizeOf33 rfl ?_) | (refine wpl_loadW hE 7 rfl rfl rfl rfl Tryd.isAgg33 Tryd.sizeOf33 rfl ?_)))
                  | ((with_reducible (show Go.wpList _ _ _ (Go.Oper.mk _ (.store 33 _ _) _ _ _ _ :: _) _ _)); (first | (refine wpl_storeW hE 0 rfl rfl rfl (xs := [.slice ao L.length c]) rfl rfl Tryd.sizeOf33 rfl (by simp [Value.oneCell']) rfl ?_) | (refine wpl_storeW hE 1 rfl rfl rfl (xs := [.slice ao L.length c]) rfl rfl Tryd.sizeOf33 rfl (by simp [Value.oneCell']) rfl ?_) | (refine wpl_storeW hE 2 rfl rfl rfl (xs := [.slice ao L.length c]) rfl rfl Tryd.sizeOf33 rfl (by simp [Value.oneCell']) rfl ?_) | (refine wpl_storeW hE 3 rfl rfl rfl (xs := [.slice ao L.length c]) rfl rfl Tryd.sizeOf33 rfl (by simp [Value.oneCell']) rfl ?_) | (refine wpl_storeW hE 4 rfl rfl rfl (xs := [.slice ao L.length c]) rfl rfl Tryd.sizeOf33 rfl (by simp [Value.oneCell']) rfl ?_) | (refine wpl_storeW hE 5 rfl rfl rfl (xs := [.slice ao L.length c]) rfl rfl Tryd.sizeOf33 rfl (by simp [Value.oneCell']) rfl ?_) | (refine wpl_storeW hE 6 rfl rfl rfl (xs := [.slice ao L.length c]) rfl rfl Tryd.sizeOf33 rfl (by simp [Value.oneCell']) rfl ?_) | (refine wpl_storeW hE 7 rfl rfl rfl (xs := [.slice ao L.length c]) rfl rfl Tryd.sizeOf33 rfl (by simp [Value.oneCell']) rfl ?_)); clear hE; intro w hE; simp only [List.set_cons_zero, List.set_cons_succ] at hE))
                refine bodyPost_ret (results_cell2 rfl hE 0 rfl rfl Tryd.isAgg33 Tryd.sizeOf33 rfl rfl) rfl ?_
                exact ⟨_, rfl, AddPost.bad HB.out (m := [_, _, _]) hE⟩
              | false =>
                have hG2 := of_decide_eq_false hG
                cases h6 : decide ((6 : Int) ≤ (ki.length : Int)) with
                | true =>
                  have h62 := of_decide_eq_true h6
                  have HB := SL.hid (show addE L _ = 6 ∧ (6 : Int) ≠ 0 from ⟨HE3.out.trans (if_pos (.inr (by omega))), by decide⟩)
                  try clear hG2
                  try clear h62
                  go_wp2
                  refine wp_region_held_drew (S := (fun w' => ((Instr.loadAt 9 (.pointer (some ⟨b3, 0, none⟩))).run Tryd.prog w' = .ok (.string ⟨xp.toArray⟩) w') ∧ ((Instr.loadAt 9 (.pointer (some ⟨b3, 2, none⟩))).run Tryd.prog w' = .ok (.string ⟨xb.toArray⟩) w') ∧ ((Instr.loadAt 33 (.pointer (some ⟨b2, 0, none⟩))).run Tryd.prog w' = .ok (.agg [.slice ao L.length c].toArray) w'))) (by kernel_rfl) ⟨(atVm hE.drew (by repeat (first | exact List.Mem.head _ | refine List.Mem.tail _ ?_)) (by simp [go_sem]) rfl), (atVm hE.drew (by repeat (first | exact List.Mem.head _ | refine List.Mem.tail _ ?_)) (by simp [go_sem]) rfl), (atWm hE.drew (by repeat (first | exact List.Mem.head _ | refine List.Mem.tail _ ?_)) Tryd.isAgg33 Tryd.sizeOf33 rfl)⟩ (fun hS => ?_)
                  refine takeW 0 ⟨some 46, .fieldAddr 41 (.tmp 3) 2, 0, "ref.go:58", #[], none⟩ ?_ (.inl ⟨by rfl, ?_⟩) hS ?_
                  rotate_left
                  · (intro w hSw; (try dsimp only at hSw); go_simp; (try with_reducible rfl))
                  try simp only [Act.put, sb, s0, sz]
                  refine takeW 1 ⟨some 47, .load 9 (.tmp 46), 9, "ref.go:58", #[⟨0, .data⟩], none⟩ ?_ (.inl ⟨by rfl, ?_⟩) hS ?_
                  rotate_left
                  · (intro w hSw; (try dsimp only at hSw); go_simp; (try with_reducible rfl))
                  try simp only [Act.put, sb, s0, sz]
                  refine takeW 2 ⟨some 48, .call { callee := .builtin .len, args := #[.tmp 47], argTypes := #[9] }, 3, "ref.go:58", #[⟨1, .data⟩], none⟩ ?_ (.inl ⟨by rfl, ?_⟩) hS ?_
                  rotate_left
                  · (intro w hSw; (try dsimp only at hSw); go_simp; (try with_reducible rfl))
                  try simp only [Act.put, sb, s0, sz]
                  refine takeW 3 ⟨some 49, .binOp .gtr 3 (.tmp 48) (.const (.int .i64 8192)) 3, 4, "ref.go:58", #[⟨2, .data⟩], none⟩ ?_ (.inl ⟨by rfl, ?_⟩) hS ?_
                  rotate_left
                  · (intro w hSw; (try dsimp only at hSw); go_simp; (try with_reducible rfl))
                  try simp only [Act.put, sb, s0, sz]
                  refine takeW 4 ⟨some 50, .move (.tmp 49), 4, "ref.go:58", #[⟨3, .data⟩], none⟩ ?_ (.inl ⟨by rfl, ?_⟩) hS ?_
                  rotate_left
                  · (intro w hSw; (try dsimp only at hSw); go_simp; (try with_reducible rfl))
                  try simp only [Act.put, sb, s0, sz]
                  refine takeW 5 ⟨some 51, .load 33 (.tmp 2), 33, "ref.go:58", #[⟨4, .guard⟩], some (4, false)⟩ ?_ (.inl ⟨by rfl, ?_⟩) hS ?_
                  rotate_left
                  · (intro w hSw; (try dsimp only at hSw); go_simp; (try with_reducible rfl))
                  try simp only [Act.put, sb, s0, sz]
                  refine takeW 6 ⟨some 52, .fieldAddr 41 (.tmp 3) 0, 0, "ref.go:58", #[⟨4, .guard⟩], some (4, false)⟩ ?_ (.inl ⟨by rfl, ?_⟩) hS ?_
                  rotate_left
                  · (intro w hSw; (try dsimp only at hSw); go_simp; (try with_reducible rfl))
                  try simp only [Act.put, sb, s0, sz]
                  refine takeW 7 ⟨some 53, .load 9 (.tmp 52), 9, "ref.go:58", #[⟨6, .data⟩, ⟨4, .guard⟩], some (4, false)⟩ ?_ (.inl ⟨by rfl, ?_⟩) hS ?_
                  rotate_left
                  · (intro w hSw; (try dsimp only at hSw); go_simp; (try with_reducible rfl))
                  try simp only [Act.put, sb, s0, sz]
                  refine wpAnyH_ready (rs := [8]) (by kernel_rfl) (by simp) ?_
                  refine (AllReadyH.cons (o := { dst := some 54, op := Go.Op.call { callee := Go.Callee.value (Go.Operand.func 51), args := #[Go.Operand.tmp 53], argTypes := #[9] }, type := 9, pos := "ref.go:58", after := #[{ on := 7, ground := Go.Ground.data }, { on := 4, ground := Go.Ground.chain }, { on := 4, ground := Go.Ground.guard }], guard := some (4, false) }) rfl (fun K hK => ?_) AllReadyH.nil)
                  (go_simp; refine (HPa.out _ _ hE.drew).mono ?_; rintro e w4 ⟨v, rfl, rfl, hA1⟩)
                  refine hK.out _ _ ⟨(atVm hA1 (by repeat (first | exact List.Mem.head _ | refine List.Mem.tail _ ?_)) (by simp [go_sem]) rfl), (atVm hA1 (by repeat (first | exact List.Mem.head _ | refine List.Mem.tail _ ?_)) (by simp [go_sem]) rfl), (atWm hA1 (by repeat (first | exact List.Mem.head _ | refine List.Mem.tail _ ?_)) Tryd.isAgg33 Tryd.sizeOf33 rfl)⟩ (fun hS => ?_)
                  clear hK K
                  try simp only [Act.put, sb, s0, sz]
                  refine wpAnyH_ready (rs := [9]) (by kernel_rfl) (by simp) ?_
                  refine (AllReadyH.cons (o := { dst := some 55, op := Go.Op.call { callee := Go.Callee.value (Go.Operand.func 36), args := #[Go.Operand.tmp 51, Go.Operand.tmp 54], argTypes := #[33, 9] }, type := 72, pos := "ref.go:58", after := #[{ on := 5, ground := Go.Ground.data }, { on := 8, ground := Go.Ground.data }, { on := 8, ground := Go.Ground.chain }, { on := 4, ground := Go.Ground.guard }], guard := some (4, false) }) rfl (fun K hK => ?_) AllReadyH.nil)
                  (go_simp; refine (HKi.out _ _ (by repeat (first | exact List.suffix_refl _ | refine List.IsSuffix.trans ?_ (List.suffix_cons _ _))) hA1).mono ?_; rintro e w5 ⟨v, rfl, ka, kc, rfl, hA2⟩)
                  refine hK.out _ _ ⟨(atVm hA2 (by repeat (first | exact List.Mem.head _ | refine List.Mem.tail _ ?_)) (by simp [go_sem]) rfl), (atVm hA2 (by repeat (first | exact List.Mem.head _ | refine List.Mem.tail _ ?_)) (by simp [go_sem]) rfl), (atWm hA2 (by repeat (first | exact List.Mem.head _ | refine List.Mem.tail _ ?_)) Tryd.isAgg33 Tryd.sizeOf33 rfl)⟩ (fun hS => ?_)
                  clear hK K
                  try simp only [Act.put, sb, s0, sz]
                  refine takeW 10 ⟨some 56, .call { callee := .builtin .len, args := #[.tmp 55], argTypes := #[72] }, 3, "ref.go:58", #[⟨9, .data⟩, ⟨4, .guard⟩], some (4, false)⟩ ?_ (.inl ⟨by rfl, ?_⟩) hS ?_
                  rotate_left
                  · (intro w hSw; (try dsimp only at hSw); go_simp; (try with_reducible rfl))
                  try simp only [Act.put, sb, s0, sz]
                  refine takeW 11 ⟨some 57, .binOp .geq 3 (.tmp 56) (.const (.int .i64 6)) 3, 4, "ref.go:58", #[⟨10, .data⟩, ⟨4, .guard⟩], some (4, false)⟩ ?_ (.inl ⟨by rfl, ?_⟩) hS ?_
                  rotate_left
                  · (intro w hSw; (try dsimp only at hSw); go_simp; (try with_reducible rfl))
                  try simp only [Act.put, sb, s0, sz]
                  refine takeW 12 ⟨some 58, .pick (.tmp 50) (.const (.bool true)) (.tmp 57), 4, "ref.go:58", #[⟨4, .data⟩, ⟨11, .data⟩], none⟩ ?_ (.inl ⟨by rfl, ?_⟩) hS ?_
                  rotate_left
                  · (intro w hSw; (try dsimp only at hSw); go_simp; (try with_reducible rfl))
                  try simp only [Act.put, sb, s0, sz]
                  refine wpAnyH_done (by kernel_rfl) ?_ _
                  replace hE := hA2.tail
                  clear hS
                  try clear hA1
                  try clear hA2
                  try clear hA3
                  clear HE3
                  go_wp2_with (first
                    | go_skip
                    | ((with_reducible (show Go.wpList _ _ _ (Go.Oper.mk _ (.load 33 _) _ _ _ _ :: _) _ _)); (first | (refine wpl_loadW hE 0 rfl rfl rfl rfl Tryd.isAgg33 Tryd.sizeOf33 rfl ?_) | (refine wpl_loadW hE 1 rfl rfl rfl rfl Tryd.isAgg33 Tryd.sizeOf33 rfl ?_) | (refine wpl_loadW hE 2 rfl rfl rfl rfl Tryd.isAgg33 Tryd.sizeOf33 rfl ?_) | (refine wpl_loadW hE 3 rfl rfl rfl rfl Tryd.isAgg33 Tryd.sizeOf33 rfl ?_) | (refine wpl_loadW hE 4 rfl rfl rfl rfl Tryd.isAgg33 Tryd.sizeOf33 rfl ?_) | (refine wpl_loadW hE 5 rfl rfl rfl rfl Tryd.isAgg33 Tryd.sizeOf33 rfl ?_) | (refine wpl_loadW hE 6 rfl rfl rfl rfl Tryd.isAgg33 Tryd.sizeOf33 rfl ?_) | (refine wpl_loadW hE 7 rfl rfl rfl rfl Tryd.isAgg33 Tryd.sizeOf33 rfl ?_)))
                    | ((with_reducible (show Go.wpList _ _ _ (Go.Oper.mk _ (.store 33 _ _) _ _ _ _ :: _) _ _)); (first | (refine wpl_storeW hE 0 rfl rfl rfl (xs := [.slice ao L.length c]) rfl rfl Tryd.sizeOf33 rfl (by simp [Value.oneCell']) rfl ?_) | (refine wpl_storeW hE 1 rfl rfl rfl (xs := [.slice ao L.length c]) rfl rfl Tryd.sizeOf33 rfl (by simp [Value.oneCell']) rfl ?_) | (refine wpl_storeW hE 2 rfl rfl rfl (xs := [.slice ao L.length c]) rfl rfl Tryd.sizeOf33 rfl (by simp [Value.oneCell']) rfl ?_) | (refine wpl_storeW hE 3 rfl rfl rfl (xs := [.slice ao L.length c]) rfl rfl Tryd.sizeOf33 rfl (by simp [Value.oneCell']) rfl ?_) | (refine wpl_storeW hE 4 rfl rfl rfl (xs := [.slice ao L.length c]) rfl rfl Tryd.sizeOf33 rfl (by simp [Value.oneCell']) rfl ?_) | (refine wpl_storeW hE 5 rfl rfl rfl (xs := [.slice ao L.length c]) rfl rfl Tryd.sizeOf33 rfl (by simp [Value.oneCell']) rfl ?_) | (refine wpl_storeW hE 6 rfl rfl rfl (xs := [.slice ao L.length c]) rfl rfl Tryd.sizeOf33 rfl (by simp [Value.oneCell']) rfl ?_) | (refine wpl_storeW hE 7 rfl rfl rfl (xs := [.slice ao L.length c]) rfl rfl Tryd.sizeOf33 rfl (by simp [Value.oneCell']) rfl ?_)); clear hE; intro w hE; simp only [List.set_cons_zero, List.set_cons_succ] at hE))
                  refine bodyPost_ret (results_cell2 rfl hE 0 rfl rfl Tryd.isAgg33 Tryd.sizeOf33 rfl rfl) rfl ?_
                  exact ⟨_, rfl, AddPost.bad HB.out (m := [_, _, _]) hE⟩
                | false =>
                  have h62 := of_decide_eq_false h6
                  have HB := SL.hid (show addE L _ = 0 from HE3.out.trans (if_neg (by omega)))
                  try clear hG2
                  try clear h62
                  go_wp2
                  refine wp_region_held_drew (S := (fun w' => ((Instr.loadAt 9 (.pointer (some ⟨b3, 0, none⟩))).run Tryd.prog w' = .ok (.string ⟨xp.toArray⟩) w') ∧ ((Instr.loadAt 9 (.pointer (some ⟨b3, 2, none⟩))).run Tryd.prog w' = .ok (.string ⟨xb.toArray⟩) w') ∧ ((Instr.loadAt 33 (.pointer (some ⟨b2, 0, none⟩))).run Tryd.prog w' = .ok (.agg [.slice ao L.length c].toArray) w'))) (by kernel_rfl) ⟨(atVm hE.drew (by repeat (first | exact List.Mem.head _ | refine List.Mem.tail _ ?_)) (by simp [go_sem]) rfl), (atVm hE.drew (by repeat (first | exact List.Mem.head _ | refine List.Mem.tail _ ?_)) (by simp [go_sem]) rfl), (atWm hE.drew (by repeat (first | exact List.Mem.head _ | refine List.Mem.tail _ ?_)) Tryd.isAgg33 Tryd.sizeOf33 rfl)⟩ (fun hS => ?_)
                  refine takeW 0 ⟨some 46, .fieldAddr 41 (.tmp 3) 2, 0, "ref.go:58", #[], none⟩ ?_ (.inl ⟨by rfl, ?_⟩) hS ?_
                  rotate_left
                  · (intro w hSw; (try dsimp only at hSw); go_simp; (try with_reducible rfl))
                  try simp only [Act.put, sb, s0, sz]
                  refine takeW 1 ⟨some 47, .load 9 (.tmp 46), 9, "ref.go:58", #[⟨0, .data⟩], none⟩ ?_ (.inl ⟨by rfl, ?_⟩) hS ?_
                  rotate_left
                  · (intro w hSw; (try dsimp only at hSw); go_simp; (try with_reducible rfl))
                  try simp only [Act.put, sb, s0, sz]
                  refine takeW 2 ⟨some 48, .call { callee := .builtin .len, args := #[.tmp 47], argTypes := #[9] }, 3, "ref.go:58", #[⟨1, .data⟩], none⟩ ?_ (.inl ⟨by rfl, ?_⟩) hS ?_
                  rotate_left
                  · (intro w hSw; (try dsimp only at hSw); go_simp; (try with_reducible rfl))
                  try simp only [Act.put, sb, s0, sz]
                  refine takeW 3 ⟨some 49, .binOp .gtr 3 (.tmp 48) (.const (.int .i64 8192)) 3, 4, "ref.go:58", #[⟨2, .data⟩], none⟩ ?_ (.inl ⟨by rfl, ?_⟩) hS ?_
                  rotate_left
                  · (intro w hSw; (try dsimp only at hSw); go_simp; (try with_reducible rfl))
                  try simp only [Act.put, sb, s0, sz]
                  refine takeW 4 ⟨some 50, .move (.tmp 49), 4, "ref.go:58", #[⟨3, .data⟩], none⟩ ?_ (.inl ⟨by rfl, ?_⟩) hS ?_
                  rotate_left
                  · (intro w hSw; (try dsimp only at hSw); go_simp; (try with_reducible rfl))
                  try simp only [Act.put, sb, s0, sz]
                  refine takeW 5 ⟨some 51, .load 33 (.tmp 2), 33, "ref.go:58", #[⟨4, .guard⟩], some (4, false)⟩ ?_ (.inl ⟨by rfl, ?_⟩) hS ?_
                  rotate_left
                  · (intro w hSw; (try dsimp only at hSw); go_simp; (try with_reducible rfl))
                  try simp only [Act.put, sb, s0, sz]
                  refine takeW 6 ⟨some 52, .fieldAddr 41 (.tmp 3) 0, 0, "ref.go:58", #[⟨4, .guard⟩], some (4, false)⟩ ?_ (.inl ⟨by rfl, ?_⟩) hS ?_
                  rotate_left
                  · (intro w hSw; (try dsimp only at hSw); go_simp; (try with_reducible rfl))
                  try simp only [Act.put, sb, s0, sz]
                  refine takeW 7 ⟨some 53, .load 9 (.tmp 52), 9, "ref.go:58", #[⟨6, .data⟩, ⟨4, .guard⟩], some (4, false)⟩ ?_ (.inl ⟨by rfl, ?_⟩) hS ?_
                  rotate_left
                  · (intro w hSw; (try dsimp only at hSw); go_simp; (try with_reducible rfl))
                  try simp only [Act.put, sb, s0, sz]
                  refine wpAnyH_ready (rs := [8]) (by kernel_rfl) (by simp) ?_
                  refine (AllReadyH.cons (o := { dst := some 54, op := Go.Op.call { callee := Go.Callee.value (Go.Operand.func 51), args := #[Go.Operand.tmp 53], argTypes := #[9] }, type := 9, pos := "ref.go:58", after := #[{ on := 7, ground := Go.Ground.data }, { on := 4, ground := Go.Ground.chain }, { on := 4, ground := Go.Ground.guard }], guard := some (4, false) }) rfl (fun K hK => ?_) AllReadyH.nil)
                  (go_simp; refine (HPa.out _ _ hE.drew).mono ?_; rintro e w4 ⟨v, rfl, rfl, hA1⟩)
                  refine hK.out _ _ ⟨(atVm hA1 (by repeat (first | exact List.Mem.head _ | refine List.Mem.tail _ ?_)) (by simp [go_sem]) rfl), (atVm hA1 (by repeat (first | exact List.Mem.head _ | refine List.Mem.tail _ ?_)) (by simp [go_sem]) rfl), (atWm hA1 (by repeat (first | exact List.Mem.head _ | refine List.Mem.tail _ ?_)) Tryd.isAgg33 Tryd.sizeOf33 rfl)⟩ (fun hS => ?_)
                  clear hK K
                  try simp only [Act.put, sb, s0, sz]
                  refine wpAnyH_ready (rs := [9]) (by kernel_rfl) (by simp) ?_
                  refine (AllReadyH.cons (o := { dst := some 55, op := Go.Op.call { callee := Go.Callee.value (Go.Operand.func 36), args := #[Go.Operand.tmp 51, Go.Operand.tmp 54], argTypes := #[33, 9] }, type := 72, pos := "ref.go:58", after := #[{ on := 5, ground := Go.Ground.data }, { on := 8, ground := Go.Ground.data }, { on := 8, ground := Go.Ground.chain }, { on := 4, ground := Go.Ground.guard }], guard := some (4, false) }) rfl (fun K hK => ?_) AllReadyH.nil)
                  (go_simp; refine (HKi.out _ _ (by repeat (first | exact List.suffix_refl _ | refine List.IsSuffix.trans ?_ (List.suffix_cons _ _))) hA1).mono ?_; rintro e w5 ⟨v, rfl, ka, kc, rfl, hA2⟩)
                  refine hK.out _ _ ⟨(atVm hA2 (by repeat (first | exact List.Mem.head _ | refine List.Mem.tail _ ?_)) (by simp [go_sem]) rfl), (atVm hA2 (by repeat (first | exact List.Mem.head _ | refine List.Mem.tail _ ?_)) (by simp [go_sem]) rfl), (atWm hA2 (by repeat (first | exact List.Mem.head _ | refine List.Mem.tail _ ?_)) Tryd.isAgg33 Tryd.sizeOf33 rfl)⟩ (fun hS => ?_)
                  clear hK K
                  try simp only [Act.put, sb, s0, sz]
                  refine takeW 10 ⟨some 56, .call { callee := .builtin .len, args := #[.tmp 55], argTypes := #[72] }, 3, "ref.go:58", #[⟨9, .data⟩, ⟨4, .guard⟩], some (4, false)⟩ ?_ (.inl ⟨by rfl, ?_⟩) hS ?_
                  rotate_left
                  · (intro w hSw; (try dsimp only at hSw); go_simp; (try with_reducible rfl))
                  try simp only [Act.put, sb, s0, sz]
                  refine takeW 11 ⟨some 57, .binOp .geq 3 (.tmp 56) (.const (.int .i64 6)) 3, 4, "ref.go:58", #[⟨10, .data⟩, ⟨4, .guard⟩], some (4, false)⟩ ?_ (.inl ⟨by rfl, ?_⟩) hS ?_
                  rotate_left
                  · (intro w hSw; (try dsimp only at hSw); go_simp; (try with_reducible rfl))
                  try simp only [Act.put, sb, s0, sz]
                  refine takeW 12 ⟨some 58, .pick (.tmp 50) (.const (.bool true)) (.tmp 57), 4, "ref.go:58", #[⟨4, .data⟩, ⟨11, .data⟩], none⟩ ?_ (.inl ⟨by rfl, ?_⟩) hS ?_
                  rotate_left
                  · (intro w hSw; (try dsimp only at hSw); go_simp; (try with_reducible rfl))
                  try simp only [Act.put, sb, s0, sz]
                  refine wpAnyH_done (by kernel_rfl) ?_ _
                  replace hE := hA2.tail
                  clear hS
                  try clear hA1
                  try clear hA2
                  try clear hA3
                  clear HE3
                  go_wp2
                  refine wp_region_held_drew (S := (fun w' => ((Instr.loadAt 22 (.pointer (some ⟨b2, 0, none⟩))).run Tryd.prog w' = .ok (.slice ao L.length c) w') ∧ ((Instr.loadAt 41 (.pointer (some ⟨b3, 0, none⟩))).run Tryd.prog w' = .ok (.agg [.string ⟨xp.toArray⟩, .bool true, .string ⟨xb.toArray⟩].toArray) w'))) (by kernel_rfl) ⟨(atVm hE.drew (by repeat (first | exact List.Mem.head _ | refine List.Mem.tail _ ?_)) (by simp [go_sem]) rfl), (atWm hE.drew (by repeat (first | exact List.Mem.head _ | refine List.Mem.tail _ ?_)) Tryd.isAgg41 Tryd.sizeOf41 rfl)⟩ (fun hS => ?_)
                  refine takeW 0 ⟨some 60, .fieldAddr 33 (.tmp 2) 0, 0, "ref.go:61", #[], none⟩ ?_ (.inl ⟨by rfl, ?_⟩) hS ?_
                  rotate_left
                  · (intro w hSw; (try dsimp only at hSw); go_simp; (try with_reducible rfl))
                  try simp only [Act.put, sb, s0, sz]
                  refine takeW 1 ⟨some 61, .load 22 (.tmp 60), 22, "ref.go:61", #[⟨0, .data⟩], none⟩ ?_ (.inl ⟨by rfl, ?_⟩) hS ?_
                  rotate_left
                  · (intro w hSw; (try dsimp only at hSw); go_simp; (try with_reducible rfl))
                  try simp only [Act.put, sb, s0, sz]
                  refine takeW 3 ⟨some 63, .load 41 (.tmp 3), 41, "ref.go:61", #[], none⟩ ?_ (.inl ⟨by rfl, ?_⟩) hS ?_
                  rotate_left
                  · (intro w hSw; (try dsimp only at hSw); go_simp; (try with_reducible rfl))
                  try simp only [Act.put, sb, s0, sz]
                  refine wpAnyH_ready (rs := [2, 4]) (by kernel_rfl) (by simp) ?_
                  refine (AllReadyH.cons (o := { dst := some 62, op := Go.Op.call { callee := Go.Callee.builtin Go.Builtin.append, args := #[Go.Operand.const (Go.Value.slice none 0 0), Go.Operand.tmp 61], argTypes := #[22, 22] }, type := 22, pos := "ref.go:61", after := #[{ on := 1, ground := Go.Ground.data }], guard := none }) rfl (fun K hK => ?_) (AllReadyH.cons (o := { dst := some 64, op := Go.Op.buildSlice 22 1 #[(0, Go.Operand.tmp 63)], type := 22, pos := "ref.go:61", after := #[{ on := 3, ground := Go.Ground.data }], guard := none }) rfl (fun K hK => ?_) AllReadyH.nil))
                  focus
                    ((first | refine step_appendNil hB rfl (by rfl) (by rfl) (by rfl) Tryd.underlying22 info_en (by decide) (hk _ (hB.suf (by repeat (first | exact List.suffix_refl _ | refine List.IsSuffix.trans ?_ (List.suffix_cons _ _))))) (enC_flat_len L) (flat_one L) (by omega) (by omega) ?_ | refine step_appendNil hE.drew rfl (by rfl) (by rfl) (by rfl) Tryd.underlying22 info_en (by decide) (hk _ (hE.drew.suf (by repeat (first | exact List.suffix_refl _ | refine List.IsSuffix.trans ?_ (List.suffix_cons _ _))))) (enC_flat_len L) (flat_one L) (by omega) (by omega) ?_); intro a1 c1 w6 hA)
                    refine hK.out _ _ ⟨(atVm hA (by repeat (first | exact List.Mem.head _ | refine List.Mem.tail _ ?_)) (by simp [go_sem]) rfl), (atWm hA (by repeat (first | exact List.Mem.head _ | refine List.Mem.tail _ ?_)) Tryd.isAgg41 Tryd.sizeOf41 rfl)⟩ (fun hS => ?_)
                    clear hK K
                    try simp only [Act.put, sb, s0, sz]
                    refine wpAnyH_ready (rs := [4]) (by kernel_rfl) (by simp) ?_
                    refine (AllReadyH.cons (o := { dst := some 64, op := Go.Op.buildSlice 22 1 #[(0, Go.Operand.tmp 63)], type := 22, pos := "ref.go:61", after := #[{ on := 3, ground := Go.Ground.data }], guard := none }) rfl (fun K hK => ?_) AllReadyH.nil)
                    ((first | refine step_build1 hA rfl (by rfl) (xs := enC ⟨xp, true, xb⟩) (by rfl) Tryd.underlying22 zs_en Tryd.sizeOf41 (by decide) (by decide) rfl ?_ | refine step_build1 hE.drew rfl (by rfl) (xs := enC ⟨xp, true, xb⟩) (by rfl) Tryd.underlying22 zs_en Tryd.sizeOf41 (by decide) (by decide) rfl ?_); intro b9 w7 hB)
                    refine hK.out _ _ ⟨(atVm hB (by repeat (first | exact List.Mem.head _ | refine List.Mem.tail _ ?_)) (by simp [go_sem]) rfl), (atWm hB (by repeat (first | exact List.Mem.head _ | refine List.Mem.tail _ ?_)) Tryd.isAgg41 Tryd.sizeOf41 rfl)⟩ (fun hS => ?_)
                    clear hK K
                    try simp only [Act.put, sb, s0, sz]
                    refine wpAnyH_ready (rs := [5]) (by kernel_rfl) (by simp) ?_
                    refine (AllReadyH.cons (o := { dst := some 65, op := Go.Op.call { callee := Go.Callee.builtin Go.Builtin.append, args := #[Go.Operand.tmp 62, Go.Operand.tmp 64], argTypes := #[22, 22] }, type := 22, pos := "ref.go:61", after := #[{ on := 2, ground := Go.Ground.data }, { on := 4, ground := Go.Ground.data }, { on := 2, ground := Go.Ground.chain }], guard := none }) rfl (fun K hK => ?_) AllReadyH.nil)
                    ((first | refine step_appendG hB 1 rfl rfl (by rfl) (by rfl) (by rfl) Tryd.underlying22 info_en (by decide) (m := 1) (news := enC ⟨xp, true, xb⟩) (reads_pt hB 0 rfl (off := 0) (fun j u hu => by rw [Nat.zero_add, List.getElem?_toArray]; exact hu)) rfl (enC_one _) (by omega) (by omega) ?_ | refine step_appendG hA 0 rfl rfl (by rfl) (by rfl) (by rfl) Tryd.underlying22 info_en (by decide) (m := 1) (news := enC ⟨xp, true, xb⟩) (reads_pt hA 1 rfl (off := 0) (fun j u hu => by rw [Nat.zero_add, List.getElem?_toArray]; exact hu)) rfl (enC_one _) (by omega) (by omega) ?_); intro a2 c2 w8 hC; simp only [List.set_cons_zero, List.set_cons_succ] at hC)
                    refine hK.out _ _ ⟨(atVm hC (by repeat (first | exact List.Mem.head _ | refine List.Mem.tail _ ?_)) (by simp [go_sem]) rfl), (atWm hC (by repeat (first | exact List.Mem.head _ | refine List.Mem.tail _ ?_)) Tryd.isAgg41 Tryd.sizeOf41 rfl)⟩ (fun hS => ?_)
                    clear hK K
                    try simp only [Act.put, sb, s0, sz]
                    refine takeW 6 ⟨some 66, .build 33 #[(0, .tmp 65)], 33, "ref.go:61", #[⟨5, .data⟩], none⟩ ?_ (.inl ⟨by rfl, ?_⟩) hS ?_
                    rotate_left
                    · (intro w hSw; (try dsimp only at hSw); go_simp; (try with_reducible rfl))
                    try simp only [Act.put, sb, s0, sz]
                    refine wpAnyH_ready (rs := [7]) (by kernel_rfl) (by simp) ?_
                    refine (AllReadyH.cons (o := { dst := none, op := Go.Op.store 33 (Go.Operand.tmp 4) (Go.Operand.tmp 66), type := 0, pos := "ref.go:61", after := #[{ on := 6, ground := Go.Ground.data }, { on := 5, ground := Go.Ground.chain }, { on := 0, ground := Go.Ground.phase }, { on := 1, ground := Go.Ground.phase }, { on := 2, ground := Go.Ground.phase }, { on := 3, ground := Go.Ground.phase }, { on := 4, ground := Go.Ground.phase }, { on := 5, ground := Go.Ground.phase }, { on := 6, ground := Go.Ground.phase }], guard := none }) rfl (fun K hK => ?_) AllReadyH.nil)
                    (refine step_storeW hC 2 rfl (by rfl) (by rfl) (by rfl) (xs := [.slice a2 (L.length + 1) c2]) (by rfl) Tryd.sizeOf33 rfl (by simp [Value.oneCell']) rfl ?_; intro w9 hD; simp only [List.set_cons_zero, List.set_cons_succ] at hD)
                    refine hK.out _ _ ⟨(atVm hD (by repeat (first | exact List.Mem.head _ | refine List.Mem.tail _ ?_)) (by simp [go_sem]) rfl), (atWm hD (by repeat (first | exact List.Mem.head _ | refine List.Mem.tail _ ?_)) Tryd.isAgg41 Tryd.sizeOf41 rfl)⟩ (fun hS => ?_)
                    clear hK K
                    try simp only [Act.put, sb, s0, sz]
                    refine takeW 8 ⟨some 5, .assign (.const (.int .i64 0)), 29, "ref.go:61", #[⟨7, .chain⟩, ⟨0, .phase⟩, ⟨1, .phase⟩, ⟨2, .phase⟩, ⟨3, .phase⟩, ⟨4, .phase⟩, ⟨5, .phase⟩, ⟨6, .phase⟩, ⟨7, .phase⟩], none⟩ ?_ (.inl ⟨by rfl, ?_⟩) hS ?_
                    rotate_left
                    · (intro w hSw; (try dsimp only at hSw); go_simp; (try with_reducible rfl))
                    try simp only [Act.put, sb, s0, sz]
                    refine wpAnyH_done (by kernel_rfl) ?_ _
                  rotate_right
                  focus
                    ((first | refine step_build1 hA rfl (by rfl) (xs := enC ⟨xp, true, xb⟩) (by rfl) Tryd.underlying22 zs_en Tryd.sizeOf41 (by decide) (by decide) rfl ?_ | refine step_build1 hE.drew rfl (by rfl) (xs := enC ⟨xp, true, xb⟩) (by rfl) Tryd.underlying22 zs_en Tryd.sizeOf41 (by decide) (by decide) rfl ?_); intro b9 w7 hB)
                    refine hK.out _ _ ⟨(atVm hB (by repeat (first | exact List.Mem.head _ | refine List.Mem.tail _ ?_)) (by simp [go_sem]) rfl), (atWm hB (by repeat (first | exact List.Mem.head _ | refine List.Mem.tail _ ?_)) Tryd.isAgg41 Tryd.sizeOf41 rfl)⟩ (fun hS => ?_)
                    clear hK K
                    try simp only [Act.put, sb, s0, sz]
                    refine wpAnyH_ready (rs := [2]) (by kernel_rfl) (by simp) ?_
                    refine (AllReadyH.cons (o := { dst := some 62, op := Go.Op.call { callee := Go.Callee.builtin Go.Builtin.append, args := #[Go.Operand.const (Go.Value.slice none 0 0), Go.Operand.tmp 61], argTypes := #[22, 22] }, type := 22, pos := "ref.go:61", after := #[{ on := 1, ground := Go.Ground.data }], guard := none }) rfl (fun K hK => ?_) AllReadyH.nil)
                    ((first | refine step_appendNil hB rfl (by rfl) (by rfl) (by rfl) Tryd.underlying22 info_en (by decide) (hk _ (hB.suf (by repeat (first | exact List.suffix_refl _ | refine List.IsSuffix.trans ?_ (List.suffix_cons _ _))))) (enC_flat_len L) (flat_one L) (by omega) (by omega) ?_ | refine step_appendNil hE.drew rfl (by rfl) (by rfl) (by rfl) Tryd.underlying22 info_en (by decide) (hk _ (hE.drew.suf (by repeat (first | exact List.suffix_refl _ | refine List.IsSuffix.trans ?_ (List.suffix_cons _ _))))) (enC_flat_len L) (flat_one L) (by omega) (by omega) ?_); intro a1 c1 w6 hA)
                    refine hK.out _ _ ⟨(atVm hA (by repeat (first | exact List.Mem.head _ | refine List.Mem.tail _ ?_)) (by simp [go_sem]) rfl), (atWm hA (by repeat (first | exact List.Mem.head _ | refine List.Mem.tail _ ?_)) Tryd.isAgg41 Tryd.sizeOf41 rfl)⟩ (fun hS => ?_)
                    clear hK K
                    try simp only [Act.put, sb, s0, sz]
                    refine wpAnyH_ready (rs := [5]) (by kernel_rfl) (by simp) ?_
                    refine (AllReadyH.cons (o := { dst := some 65, op := Go.Op.call { callee := Go.Callee.builtin Go.Builtin.append, args := #[Go.Operand.tmp 62, Go.Operand.tmp 64], argTypes := #[22, 22] }, type := 22, pos := "ref.go:61", after := #[{ on := 2, ground := Go.Ground.data }, { on := 4, ground := Go.Ground.data }, { on := 2, ground := Go.Ground.chain }], guard := none }) rfl (fun K hK => ?_) AllReadyH.nil)
                    ((first | refine step_appendG hB 1 rfl rfl (by rfl) (by rfl) (by rfl) Tryd.underlying22 info_en (by decide) (m := 1) (news := enC ⟨xp, true, xb⟩) (reads_pt hB 0 rfl (off := 0) (fun j u hu => by rw [Nat.zero_add, List.getElem?_toArray]; exact hu)) rfl (enC_one _) (by omega) (by omega) ?_ | refine step_appendG hA 0 rfl rfl (by rfl) (by rfl) (by rfl) Tryd.underlying22 info_en (by decide) (m := 1) (news := enC ⟨xp, true, xb⟩) (reads_pt hA 1 rfl (off := 0) (fun j u hu => by rw [Nat.zero_add, List.getElem?_toArray]; exact hu)) rfl (enC_one _) (by omega) (by omega) ?_); intro a2 c2 w8 hC; simp only [List.set_cons_zero, List.set_cons_succ] at hC)
                    refine hK.out _ _ ⟨(atVm hC (by repeat (first | exact List.Mem.head _ | refine List.Mem.tail _ ?_)) (by simp [go_sem]) rfl), (atWm hC (by repeat (first | exact List.Mem.head _ | refine List.Mem.tail _ ?_)) Tryd.isAgg41 Tryd.sizeOf41 rfl)⟩ (fun hS => ?_)
                    clear hK K
                    try simp only [Act.put, sb, s0, sz]
                    refine takeW 6 ⟨some 66, .build 33 #[(0, .tmp 65)], 33, "ref.go:61", #[⟨5, .data⟩], none⟩ ?_ (.inl ⟨by rfl, ?_⟩) hS ?_
                    rotate_left
                    · (intro w hSw; (try dsimp only at hSw); go_simp; (try with_reducible rfl))
                    try simp only [Act.put, sb, s0, sz]
                    refine wpAnyH_ready (rs := [7]) (by kernel_rfl) (by simp) ?_
                    refine (AllReadyH.cons (o := { dst := none, op := Go.Op.store 33 (Go.Operand.tmp 4) (Go.Operand.tmp 66), type := 0, pos := "ref.go:61", after := #[{ on := 6, ground := Go.Ground.data }, { on := 5, ground := Go.Ground.chain }, { on := 0, ground := Go.Ground.phase }, { on := 1, ground := Go.Ground.phase }, { on := 2, ground := Go.Ground.phase }, { on := 3, ground := Go.Ground.phase }, { on := 4, ground := Go.Ground.phase }, { on := 5, ground := Go.Ground.phase }, { on := 6, ground := Go.Ground.phase }], guard := none }) rfl (fun K hK => ?_) AllReadyH.nil)
                    (refine step_storeW hC 2 rfl (by rfl) (by rfl) (by rfl) (xs := [.slice a2 (L.length + 1) c2]) (by rfl) Tryd.sizeOf33 rfl (by simp [Value.oneCell']) rfl ?_; intro w9 hD; simp only [List.set_cons_zero, List.set_cons_succ] at hD)
                    refine hK.out _ _ ⟨(atVm hD (by repeat (first | exact List.Mem.head _ | refine List.Mem.tail _ ?_)) (by simp [go_sem]) rfl), (atWm hD (by repeat (first | exact List.Mem.head _ | refine List.Mem.tail _ ?_)) Tryd.isAgg41 Tryd.sizeOf41 rfl)⟩ (fun hS => ?_)
                    clear hK K
                    try simp only [Act.put, sb, s0, sz]
                    refine takeW 8 ⟨some 5, .assign (.const (.int .i64 0)), 29, "ref.go:61", #[⟨7, .chain⟩, ⟨0, .phase⟩, ⟨1, .phase⟩, ⟨2, .phase⟩, ⟨3, .phase⟩, ⟨4, .phase⟩, ⟨5, .phase⟩, ⟨6, .phase⟩, ⟨7, .phase⟩], none⟩ ?_ (.inl ⟨by rfl, ?_⟩) hS ?_
                    rotate_left
                    · (intro w hSw; (try dsimp only at hSw); go_simp; (try with_reducible rfl))
                    try simp only [Act.put, sb, s0, sz]
                    refine wpAnyH_done (by kernel_rfl) ?_ _
                  all_goals
                    clear hC hB hA hE hS
                    go_wp2
                    refine bodyPost_ret (results_cell2 rfl hD 2 rfl rfl Tryd.isAgg33 Tryd.sizeOf33 rfl rfl) rfl ?_
                    exact ⟨_, rfl, AddPost.good HB.out (m := [_, _, _, _, _]) (fun lk w h => by first | exact reads_row h 0 rfl | exact reads_row h 1 rfl) hD⟩
      | false =>
        by_cases hC : 0 ≤ ai
        · skip
          have HB := SL.hid (show addE L _ = 8 ∧ (8 : Int) ≠ 0 from ⟨HE2.out.trans (if_pos (.inr (.inr (.inl (by simp [hC]))))), by decide⟩)
          refine wp_region_held_drew (S := (fun w' => ((Instr.loadAt 9 (.pointer (some ⟨b3, 0, none⟩))).run Tryd.prog w' = .ok (.string ⟨xp.toArray⟩) w') ∧ ((Instr.loadAt 4 (.pointer (some ⟨b3, 1, none⟩))).run Tryd.prog w' = .ok (.bool false) w') ∧ ((Instr.loadAt 9 (.pointer (some ⟨b3, 2, none⟩))).run Tryd.prog w' = .ok (.string ⟨xb.toArray⟩) w') ∧ ((Instr.loadAt 33 (.pointer (some ⟨b2, 0, none⟩))).run Tryd.prog w' = .ok (.agg [.slice ao L.length c].toArray) w'))) (by kernel_rfl) ⟨(atVm hE.drew (by repeat (first | exact List.Mem.head _ | refine List.Mem.tail _ ?_)) (by simp [go_sem]) rfl), (atVm hE.drew (by repeat (first | exact List.Mem.head _ | refine List.Mem.tail _ ?_)) (by simp [go_sem]) rfl), (atVm hE.drew (by repeat (first | exact List.Mem.head _ | refine List.Mem.tail _ ?_)) (by simp [go_sem]) rfl), (atWm hE.drew (by repeat (first | exact List.Mem.head _ | refine List.Mem.tail _ ?_)) Tryd.isAgg33 Tryd.sizeOf33 rfl)⟩ (fun hS => ?_)
          refine takeW 0 ⟨some 18, .fieldAddr 41 (.tmp 3) 0, 0, "ref.go:55", #[], none⟩ ?_ (.inl ⟨by rfl, ?_⟩) hS ?_
          rotate_left
          · (intro w hSw; (try dsimp only at hSw); go_simp; (try with_reducible rfl))
          try simp only [Act.put, sb, s0, sz]
          refine takeW 1 ⟨some 19, .load 9 (.tmp 18), 9, "ref.go:55", #[⟨0, .data⟩], none⟩ ?_ (.inl ⟨by rfl, ?_⟩) hS ?_
          rotate_left
          · (intro w hSw; (try dsimp only at hSw); go_simp; (try with_reducible rfl))
          try simp only [Act.put, sb, s0, sz]
          refine takeW 2 ⟨some 20, .binOp .eql 9 (.tmp 19) (.const (.string { data := #[] })) 9, 4, "ref.go:55", #[⟨1, .data⟩], none⟩ ?_ (.inl ⟨by rfl, ?_⟩) hS ?_
          rotate_left
          · (intro w hSw; (try dsimp only at hSw); go_simp; (try with_reducible rfl))
          try simp only [Act.put, sb, s0, sz]
          refine takeW 3 ⟨some 21, .move (.tmp 20), 4, "ref.go:55", #[⟨2, .data⟩], none⟩ ?_ (.inl ⟨by rfl, ?_⟩) hS ?_
          rotate_left
          · (intro w hSw; (try dsimp only at hSw); go_simp; (try with_reducible rfl))
          try simp only [Act.put, sb, s0, sz]
          refine takeW 4 ⟨some 22, .fieldAddr 41 (.tmp 3) 1, 0, "ref.go:55", #[⟨3, .guard⟩], some (3, false)⟩ ?_ (.inl ⟨by rfl, ?_⟩) hS ?_
          rotate_left
          · (intro w hSw; (try dsimp only at hSw); go_simp; (try with_reducible rfl))
          try simp only [Act.put, sb, s0, sz]
          refine takeW 5 ⟨some 23, .load 4 (.tmp 22), 4, "ref.go:55", #[⟨4, .data⟩, ⟨3, .guard⟩], some (3, false)⟩ ?_ (.inl ⟨by rfl, ?_⟩) hS ?_
          rotate_left
          · (intro w hSw; (try dsimp only at hSw); go_simp; (try with_reducible rfl))
          try simp only [Act.put, sb, s0, sz]
          refine takeW 6 ⟨some 24, .move (.tmp 23), 4, "ref.go:55", #[⟨5, .data⟩, ⟨3, .chain⟩, ⟨3, .guard⟩], some (3, false)⟩ ?_ (.inl ⟨by rfl, ?_⟩) hS ?_
          rotate_left
          · (intro w hSw; (try dsimp only at hSw); go_simp; (try with_reducible rfl))
          try simp only [Act.put, sb, s0, sz]
          refine takeW 7 ⟨some 25, .fieldAddr 41 (.tmp 3) 2, 0, "ref.go:55", #[⟨6, .guard⟩], some (6, true)⟩ undef (.inr ⟨by rfl, rfl⟩) hS ?_; try simp only [Act.put, sb, s0, sz]
          refine takeW 8 ⟨some 26, .load 9 (.tmp 25), 9, "ref.go:55", #[⟨7, .data⟩, ⟨6, .guard⟩], some (6, true)⟩ undef (.inr ⟨by rfl, rfl⟩) hS ?_; try simp only [Act.put, sb, s0, sz]
          refine takeW 9 ⟨some 27, .binOp .neq 9 (.tmp 26) (.const (.string { data := #[] })) 9, 4, "ref.go:55", #[⟨8, .data⟩, ⟨6, .guard⟩], some (6, true)⟩ undef (.inr ⟨by rfl, rfl⟩) hS ?_; try simp only [Act.put, sb, s0, sz]
          refine takeW 10 ⟨some 28, .pick (.tmp 24) (.tmp 27) (.const (.bool false)), 4, "ref.go:55", #[⟨6, .data⟩, ⟨9, .data⟩, ⟨3, .guard⟩], some (3, false)⟩ ?_ (.inl ⟨by rfl, ?_⟩) hS ?_
          rotate_left
          · (intro w hSw; (try dsimp only at hSw); go_simp; (try with_reducible rfl))
          try simp only [Act.put, sb, s0, sz]
          refine takeW 11 ⟨some 29, .pick (.tmp 21) (.const (.bool true)) (.tmp 28), 4, "ref.go:55", #[⟨3, .data⟩, ⟨10, .data⟩], none⟩ ?_ (.inl ⟨by rfl, ?_⟩) hS ?_
          rotate_left
          · (intro w hSw; (try dsimp only at hSw); go_simp; (try with_reducible rfl))
          try simp only [Act.put, sb, s0, sz]
          refine takeW 12 ⟨some 30, .move (.tmp 29), 4, "ref.go:55", #[⟨11, .data⟩, ⟨6, .chain⟩], none⟩ ?_ (.inl ⟨by rfl, ?_⟩) hS ?_
          rotate_left
          · (intro w hSw; (try dsimp only at hSw); go_simp; (try with_reducible rfl))
          try simp only [Act.put, sb, s0, sz]
          refine takeW 13 ⟨some 31, .load 33 (.tmp 2), 33, "ref.go:55", #[⟨12, .guard⟩], some (12, false)⟩ ?_ (.inl ⟨by rfl, ?_⟩) hS ?_
          rotate_left
          · (intro w hSw; (try dsimp only at hSw); go_simp; (try with_reducible rfl))
          try simp only [Act.put, sb, s0, sz]
          refine takeW 14 ⟨some 32, .fieldAddr 41 (.tmp 3) 0, 0, "ref.go:55", #[⟨12, .guard⟩], some (12, false)⟩ ?_ (.inl ⟨by rfl, ?_⟩) hS ?_
          rotate_left
          · (intro w hSw; (try dsimp only at hSw); go_simp; (try with_reducible rfl))
          try simp only [Act.put, sb, s0, sz]
          refine takeW 15 ⟨some 33, .load 9 (.tmp 32), 9, "ref.go:55", #[⟨14, .data⟩, ⟨12, .guard⟩], some (12, false)⟩ ?_ (.inl ⟨by rfl, ?_⟩) hS ?_
          rotate_left
          · (intro w hSw; (try dsimp only at hSw); go_simp; (try with_reducible rfl))
          try simp only [Act.put, sb, s0, sz]
          refine wpAnyH_ready (rs := [16]) (by kernel_rfl) (by simp) ?_
          refine (AllReadyH.cons (o := { dst := some 34, op := Go.Op.call { callee := Go.Callee.value (Go.Operand.func 49), args := #[Go.Operand.tmp 31, Go.Operand.tmp 33], argTypes := #[33, 9] }, type := 3, pos := "ref.go:55", after := #[{ on := 13, ground := Go.Ground.data }, { on := 15, ground := Go.Ground.data }, { on := 12, ground := Go.Ground.chain }, { on := 12, ground := Go.Ground.guard }], guard := some (12, false) }) rfl (fun K hK => ?_) AllReadyH.nil)
          (go_simp; refine (HAt.out _ _ (by repeat (first | exact List.suffix_refl _ | refine List.IsSuffix.trans ?_ (List.suffix_cons _ _))) hE.drew).mono ?_; rintro e w3 ⟨v, rfl, rfl, hA1⟩)
          refine hK.out _ _ ⟨(atVm hA1 (by repeat (first | exact List.Mem.head _ | refine List.Mem.tail _ ?_)) (by simp [go_sem]) rfl), (atVm hA1 (by repeat (first | exact List.Mem.head _ | refine List.Mem.tail _ ?_)) (by simp [go_sem]) rfl), (atVm hA1 (by repeat (first | exact List.Mem.head _ | refine List.Mem.tail _ ?_)) (by simp [go_sem]) rfl), (atWm hA1 (by repeat (first | exact List.Mem.head _ | refine List.Mem.tail _ ?_)) Tryd.isAgg33 Tryd.sizeOf33 rfl)⟩ (fun hS => ?_)
          clear hK K
          try simp only [Act.put, sb, s0, sz]
          refine takeW 17 ⟨some 35, .binOp .geq 3 (.tmp 34) (.const (.int .i64 0)) 3, 4, "ref.go:55", #[⟨16, .data⟩, ⟨12, .guard⟩], some (12, false)⟩ ?_ (.inl ⟨by rfl, ?_⟩) hS ?_
          rotate_left
          · (intro w hSw; (try dsimp only at hSw); go_simp; (try with_reducible rfl))
          try simp only [Act.put, sb, s0, sz]
          refine takeW 18 ⟨some 36, .pick (.tmp 30) (.const (.bool true)) (.tmp 35), 4, "ref.go:55", #[⟨12, .data⟩, ⟨17, .data⟩], none⟩ ?_ (.inl ⟨by rfl, ?_⟩) hS ?_
          rotate_left
          · (intro w hSw; (try dsimp only at hSw); go_simp; (try with_reducible rfl))
          try simp only [Act.put, sb, s0, sz]
          refine takeW 19 ⟨some 37, .move (.tmp 36), 4, "ref.go:55", #[⟨18, .data⟩, ⟨16, .chain⟩], none⟩ ?_ (.inl ⟨by rfl, ?_⟩) hS ?_
          rotate_left
          · (intro w hSw; (try dsimp only at hSw); go_simp; (try with_reducible rfl))
          try simp only [Act.put, sb, s0, sz]
          refine takeW 20 ⟨some 38, .load 33 (.tmp 2), 33, "ref.go:55", #[⟨19, .guard⟩], some (19, false)⟩ undef (.inr ⟨by rfl, rfl⟩) hS ?_; try simp only [Act.put, sb, s0, sz]
          refine takeW 21 ⟨some 39, .fieldAddr 41 (.tmp 3) 0, 0, "ref.go:55", #[⟨19, .guard⟩], some (19, false)⟩ undef (.inr ⟨by rfl, rfl⟩) hS ?_; try simp only [Act.put, sb, s0, sz]
          refine takeW 22 ⟨some 40, .load 9 (.tmp 39), 9, "ref.go:55", #[⟨21, .data⟩, ⟨19, .guard⟩], some (19, false)⟩ undef (.inr ⟨by rfl, rfl⟩) hS ?_; try simp only [Act.put, sb, s0, sz]
          refine takeW 23 ⟨some 41, .call { callee := .value (.func 51), args := #[.tmp 40], argTypes := #[9] }, 9, "ref.go:55", #[⟨22, .data⟩, ⟨19, .chain⟩, ⟨19, .guard⟩], some (19, false)⟩ undef (.inr ⟨by rfl, rfl⟩) hS ?_; try simp only [Act.put, sb, s0, sz]
          refine takeW 24 ⟨some 42, .call { callee := .value (.func 50), args := #[.tmp 38, .tmp 41], argTypes := #[33, 9] }, 4, "ref.go:55", #[⟨20, .data⟩, ⟨23, .data⟩, ⟨23, .chain⟩, ⟨19, .guard⟩], some (19, false)⟩ undef (.inr ⟨by rfl, rfl⟩) hS ?_; try simp only [Act.put, sb, s0, sz]
          refine takeW 25 ⟨some 43, .unOp Go.UnOp.not 4 (.tmp 42), 4, "ref.go:55", #[⟨24, .data⟩, ⟨19, .guard⟩], some (19, false)⟩ undef (.inr ⟨by rfl, rfl⟩) hS ?_; try simp only [Act.put, sb, s0, sz]
          refine takeW 26 ⟨some 44, .pick (.tmp 37) (.const (.bool true)) (.tmp 43), 4, "ref.go:55", #[⟨19, .data⟩, ⟨25, .data⟩], none⟩ ?_ (.inl ⟨by rfl, ?_⟩) hS ?_
          rotate_left
          · (intro w hSw; (try dsimp only at hSw); go_simp; (try with_reducible rfl))
          try simp only [Act.put, sb, s0, sz]
          refine wpAnyH_done (by kernel_rfl) ?_ _
          replace hE := hA1
          clear hS
          try clear hA1
          try clear hA2
          try clear hA3
          clear HE2
          go_wp2_with (first
            | go_skip
            | ((with_reducible (show Go.wpList _ _ _ (Go.Oper.mk _ (.load 33 _) _ _ _ _ :: _) _ _)); (first | (refine wpl_loadW hE 0 rfl rfl rfl rfl Tryd.isAgg33 Tryd.sizeOf33 rfl ?_) | (refine wpl_loadW hE 1 rfl rfl rfl rfl Tryd.isAgg33 Tryd.sizeOf33 rfl ?_) | (refine wpl_loadW hE 2 rfl rfl rfl rfl Tryd.isAgg33 Tryd.sizeOf33 rfl ?_) | (refine wpl_loadW hE 3 rfl rfl rfl rfl Tryd.isAgg33 Tryd.sizeOf33 rfl ?_) | (refine wpl_loadW hE 4 rfl rfl rfl rfl Tryd.isAgg33 Tryd.sizeOf33 rfl ?_) | (refine wpl_loadW hE 5 rfl rfl rfl rfl Tryd.isAgg33 Tryd.sizeOf33 rfl ?_) | (refine wpl_loadW hE 6 rfl rfl rfl rfl Tryd.isAgg33 Tryd.sizeOf33 rfl ?_) | (refine wpl_loadW hE 7 rfl rfl rfl rfl Tryd.isAgg33 Tryd.sizeOf33 rfl ?_)))
            | ((with_reducible (show Go.wpList _ _ _ (Go.Oper.mk _ (.store 33 _ _) _ _ _ _ :: _) _ _)); (first | (refine wpl_storeW hE 0 rfl rfl rfl (xs := [.slice ao L.length c]) rfl rfl Tryd.sizeOf33 rfl (by simp [Value.oneCell']) rfl ?_) | (refine wpl_storeW hE 1 rfl rfl rfl (xs := [.slice ao L.length c]) rfl rfl Tryd.sizeOf33 rfl (by simp [Value.oneCell']) rfl ?_) | (refine wpl_storeW hE 2 rfl rfl rfl (xs := [.slice ao L.length c]) rfl rfl Tryd.sizeOf33 rfl (by simp [Value.oneCell']) rfl ?_) | (refine wpl_storeW hE 3 rfl rfl rfl (xs := [.slice ao L.length c]) rfl rfl Tryd.sizeOf33 rfl (by simp [Value.oneCell']) rfl ?_) | (refine wpl_storeW hE 4 rfl rfl rfl (xs := [.slice ao L.length c]) rfl rfl Tryd.sizeOf33 rfl (by simp [Value.oneCell']) rfl ?_) | (refine wpl_storeW hE 5 rfl rfl rfl (xs := [.slice ao L.length c]) rfl rfl Tryd.sizeOf33 rfl (by simp [Value.oneCell']) rfl ?_) | (refine wpl_storeW hE 6 rfl rfl rfl (xs := [.slice ao L.length c]) rfl rfl Tryd.sizeOf33 rfl (by simp [Value.oneCell']) rfl ?_) | (refine wpl_storeW hE 7 rfl rfl rfl (xs := [.slice ao L.length c]) rfl rfl Tryd.sizeOf33 rfl (by simp [Value.oneCell']) rfl ?_)); clear hE; intro w hE; simp only [List.set_cons_zero, List.set_cons_succ] at hE))
          refine bodyPost_ret (results_cell2 rfl hE 0 rfl rfl Tryd.isAgg33 Tryd.sizeOf33 rfl rfl) rfl ?_
          exact ⟨_, rfl, AddPost.bad HB.out (m := [_, _, _]) hE⟩
        · cases dd with
          | false =>
            have HB := SL.hid (show addE L _ = 8 ∧ (8 : Int) ≠ 0 from ⟨HE2.out.trans (if_pos (.inr (.inr (.inr rfl)))), by decide⟩)
            refine wp_region_held_drew (S := (fun w' => ((Instr.loadAt 9 (.pointer (some ⟨b3, 0, none⟩))).run Tryd.prog w' = .ok (.string ⟨xp.toArray⟩) w') ∧ ((Instr.loadAt 4 (.pointer (some ⟨b3, 1, none⟩))).run Tryd.prog w' = .ok (.bool false) w') ∧ ((Instr.loadAt 9 (.pointer (some ⟨b3, 2, none⟩))).run Tryd.prog w' = .ok (.string ⟨xb.toArray⟩) w') ∧ ((Instr.loadAt 33 (.pointer (some ⟨b2, 0, none⟩))).run Tryd.prog w' = .ok (.agg [.slice ao L.length c].toArray) w'))) (by kernel_rfl) ⟨(atVm hE.drew (by repeat (first | exact List.Mem.head _ | refine List.Mem.tail _ ?_)) (by simp [go_sem]) rfl), (atVm hE.drew (by repeat (first | exact List.Mem.head _ | refine List.Mem.tail _ ?_)) (by simp [go_sem]) rfl), (atVm hE.drew (by repeat (first | exact List.Mem.head _ | refine List.Mem.tail _ ?_)) (by simp [go_sem]) rfl), (atWm hE.drew (by repeat (first | exact List.Mem.head _ | refine List.Mem.tail _ ?_)) Tryd.isAgg33 Tryd.sizeOf33 rfl)⟩ (fun hS => ?_)
            refine takeW 0 ⟨some 18, .fieldAddr 41 (.tmp 3) 0, 0, "ref.go:55", #[], none⟩ ?_ (.inl ⟨by rfl, ?_⟩) hS ?_
            rotate_left
            · (intro w hSw; (try dsimp only at hSw); go_simp; (try with_reducible rfl))
            try simp only [Act.put, sb, s0, sz]
            refine takeW 1 ⟨some 19, .load 9 (.tmp 18), 9, "ref.go:55", #[⟨0, .data⟩], none⟩ ?_ (.inl ⟨by rfl, ?_⟩) hS ?_
            rotate_left
            · (intro w hSw; (try dsimp only at hSw); go_simp; (try with_reducible rfl))
            try simp only [Act.put, sb, s0, sz]
            refine takeW 2 ⟨some 20, .binOp .eql 9 (.tmp 19) (.const (.string { data := #[] })) 9, 4, "ref.go:55", #[⟨1, .data⟩], none⟩ ?_ (.inl ⟨by rfl, ?_⟩) hS ?_
            rotate_left
            · (intro w hSw; (try dsimp only at hSw); go_simp; (try with_reducible rfl))
            try simp only [Act.put, sb, s0, sz]
            refine takeW 3 ⟨some 21, .move (.tmp 20), 4, "ref.go:55", #[⟨2, .data⟩], none⟩ ?_ (.inl ⟨by rfl, ?_⟩) hS ?_
            rotate_left
            · (intro w hSw; (try dsimp only at hSw); go_simp; (try with_reducible rfl))
            try simp only [Act.put, sb, s0, sz]
            refine takeW 4 ⟨some 22, .fieldAddr 41 (.tmp 3) 1, 0, "ref.go:55", #[⟨3, .guard⟩], some (3, false)⟩ ?_ (.inl ⟨by rfl, ?_⟩) hS ?_
            rotate_left
            · (intro w hSw; (try dsimp only at hSw); go_simp; (try with_reducible rfl))
            try simp only [Act.put, sb, s0, sz]
            refine takeW 5 ⟨some 23, .load 4 (.tmp 22), 4, "ref.go:55", #[⟨4, .data⟩, ⟨3, .guard⟩], some (3, false)⟩ ?_ (.inl ⟨by rfl, ?_⟩) hS ?_
            rotate_left
            · (intro w hSw; (try dsimp only at hSw); go_simp; (try with_reducible rfl))
            try simp only [Act.put, sb, s0, sz]
            refine takeW 6 ⟨some 24, .move (.tmp 23), 4, "ref.go:55", #[⟨5, .data⟩, ⟨3, .chain⟩, ⟨3, .guard⟩], some (3, false)⟩ ?_ (.inl ⟨by rfl, ?_⟩) hS ?_
            rotate_left
            · (intro w hSw; (try dsimp only at hSw); go_simp; (try with_reducible rfl))
            try simp only [Act.put, sb, s0, sz]
            refine takeW 7 ⟨some 25, .fieldAddr 41 (.tmp 3) 2, 0, "ref.go:55", #[⟨6, .guard⟩], some (6, true)⟩ undef (.inr ⟨by rfl, rfl⟩) hS ?_; try simp only [Act.put, sb, s0, sz]
            refine takeW 8 ⟨some 26, .load 9 (.tmp 25), 9, "ref.go:55", #[⟨7, .data⟩, ⟨6, .guard⟩], some (6, true)⟩ undef (.inr ⟨by rfl, rfl⟩) hS ?_; try simp only [Act.put, sb, s0, sz]
            refine takeW 9 ⟨some 27, .binOp .neq 9 (.tmp 26) (.const (.string { data := #[] })) 9, 4, "ref.go:55", #[⟨8, .data⟩, ⟨6, .guard⟩], some (6, true)⟩ undef (.inr ⟨by rfl, rfl⟩) hS ?_; try simp only [Act.put, sb, s0, sz]
            refine takeW 10 ⟨some 28, .pick (.tmp 24) (.tmp 27) (.const (.bool false)), 4, "ref.go:55", #[⟨6, .data⟩, ⟨9, .data⟩, ⟨3, .guard⟩], some (3, false)⟩ ?_ (.inl ⟨by rfl, ?_⟩) hS ?_
            rotate_left
            · (intro w hSw; (try dsimp only at hSw); go_simp; (try with_reducible rfl))
            try simp only [Act.put, sb, s0, sz]
            refine takeW 11 ⟨some 29, .pick (.tmp 21) (.const (.bool true)) (.tmp 28), 4, "ref.go:55", #[⟨3, .data⟩, ⟨10, .data⟩], none⟩ ?_ (.inl ⟨by rfl, ?_⟩) hS ?_
            rotate_left
            · (intro w hSw; (try dsimp only at hSw); go_simp; (try with_reducible rfl))
            try simp only [Act.put, sb, s0, sz]
            refine takeW 12 ⟨some 30, .move (.tmp 29), 4, "ref.go:55", #[⟨11, .data⟩, ⟨6, .chain⟩], none⟩ ?_ (.inl ⟨by rfl, ?_⟩) hS ?_
            rotate_left
            · (intro w hSw; (try dsimp only at hSw); go_simp; (try with_reducible rfl))
            try simp only [Act.put, sb, s0, sz]
            refine takeW 13 ⟨some 31, .load 33 (.tmp 2), 33, "ref.go:55", #[⟨12, .guard⟩], some (12, false)⟩ ?_ (.inl ⟨by rfl, ?_⟩) hS ?_
            rotate_left
            · (intro w hSw; (try dsimp only at hSw); go_simp; (try with_reducible rfl))
            try simp only [Act.put, sb, s0, sz]
            refine takeW 14 ⟨some 32, .fieldAddr 41 (.tmp 3) 0, 0, "ref.go:55", #[⟨12, .guard⟩], some (12, false)⟩ ?_ (.inl ⟨by rfl, ?_⟩) hS ?_
            rotate_left
            · (intro w hSw; (try dsimp only at hSw); go_simp; (try with_reducible rfl))
            try simp only [Act.put, sb, s0, sz]
            refine takeW 15 ⟨some 33, .load 9 (.tmp 32), 9, "ref.go:55", #[⟨14, .data⟩, ⟨12, .guard⟩], some (12, false)⟩ ?_ (.inl ⟨by rfl, ?_⟩) hS ?_
            rotate_left
            · (intro w hSw; (try dsimp only at hSw); go_simp; (try with_reducible rfl))
            try simp only [Act.put, sb, s0, sz]
            refine wpAnyH_ready (rs := [16]) (by kernel_rfl) (by simp) ?_
            refine (AllReadyH.cons (o := { dst := some 34, op := Go.Op.call { callee := Go.Callee.value (Go.Operand.func 49), args := #[Go.Operand.tmp 31, Go.Operand.tmp 33], argTypes := #[33, 9] }, type := 3, pos := "ref.go:55", after := #[{ on := 13, ground := Go.Ground.data }, { on := 15, ground := Go.Ground.data }, { on := 12, ground := Go.Ground.chain }, { on := 12, ground := Go.Ground.guard }], guard := some (12, false) }) rfl (fun K hK => ?_) AllReadyH.nil)
            (go_simp; refine (HAt.out _ _ (by repeat (first | exact List.suffix_refl _ | refine List.IsSuffix.trans ?_ (List.suffix_cons _ _))) hE.drew).mono ?_; rintro e w3 ⟨v, rfl, rfl, hA1⟩)
            refine hK.out _ _ ⟨(atVm hA1 (by repeat (first | exact List.Mem.head _ | refine List.Mem.tail _ ?_)) (by simp [go_sem]) rfl), (atVm hA1 (by repeat (first | exact List.Mem.head _ | refine List.Mem.tail _ ?_)) (by simp [go_sem]) rfl), (atVm hA1 (by repeat (first | exact List.Mem.head _ | refine List.Mem.tail _ ?_)) (by simp [go_sem]) rfl), (atWm hA1 (by repeat (first | exact List.Mem.head _ | refine List.Mem.tail _ ?_)) Tryd.isAgg33 Tryd.sizeOf33 rfl)⟩ (fun hS => ?_)
            clear hK K
            try simp only [Act.put, sb, s0, sz]
            refine takeW 17 ⟨some 35, .binOp .geq 3 (.tmp 34) (.const (.int .i64 0)) 3, 4, "ref.go:55", #[⟨16, .data⟩, ⟨12, .guard⟩], some (12, false)⟩ ?_ (.inl ⟨by rfl, ?_⟩) hS ?_
            rotate_left
            · (intro w hSw; (try dsimp only at hSw); go_simp; (try with_reducible rfl))
            try simp only [Act.put, sb, s0, sz]
            refine takeW 18 ⟨some 36, .pick (.tmp 30) (.const (.bool true)) (.tmp 35), 4, "ref.go:55", #[⟨12, .data⟩, ⟨17, .data⟩], none⟩ ?_ (.inl ⟨by rfl, ?_⟩) hS ?_
            rotate_left
            · (intro w hSw; (try dsimp only at hSw); go_simp; (try with_reducible rfl))
            try simp only [Act.put, sb, s0, sz]
            refine takeW 19 ⟨some 37, .move (.tmp 36), 4, "ref.go:55", #[⟨18, .data⟩, ⟨16, .chain⟩], none⟩ ?_ (.inl ⟨by rfl, ?_⟩) hS ?_
            rotate_left
            · (intro w hSw; (try dsimp only at hSw); go_simp; (try with_reducible rfl))
            try simp only [Act.put, sb, s0, sz]
            refine takeW 20 ⟨some 38, .load 33 (.tmp 2), 33, "ref.go:55", #[⟨19, .guard⟩], some (19, false)⟩ ?_ (.inl ⟨by rfl, ?_⟩) hS ?_
            rotate_left
            · (intro w hSw; (try dsimp only at hSw); go_simp; (try with_reducible rfl))
            try simp only [Act.put, sb, s0, sz]
            refine takeW 21 ⟨some 39, .fieldAddr 41 (.tmp 3) 0, 0, "ref.go:55", #[⟨19, .guard⟩], some (19, false)⟩ ?_ (.inl ⟨by rfl, ?_⟩) hS ?_
            rotate_left
            · (intro w hSw; (try dsimp only at hSw); go_simp; (try with_reducible rfl))
            try simp only [Act.put, sb, s0, sz]
            refine takeW 22 ⟨some 40, .load 9 (.tmp 39), 9, "ref.go:55", #[⟨21, .data⟩, ⟨19, .guard⟩], some (19, false)⟩ ?_ (.inl ⟨by rfl, ?_⟩) hS ?_
            rotate_left
            · (intro w hSw; (try dsimp only at hSw); go_simp; (try with_reducible rfl))
            try simp only [Act.put, sb, s0, sz]
            refine wpAnyH_ready (rs := [23]) (by kernel_rfl) (by simp) ?_
            refine (AllReadyH.cons (o := { dst := some 41, op := Go.Op.call { callee := Go.Callee.value (Go.Operand.func 51), args := #[Go.Operand.tmp 40], argTypes := #[9] }, type := 9, pos := "ref.go:55", after := #[{ on := 22, ground := Go.Ground.data }, { on := 19, ground := Go.Ground.chain }, { on := 19, ground := Go.Ground.guard }], guard := some (19, false) }) rfl (fun K hK => ?_) AllReadyH.nil)
            (go_simp; refine (HPa.out _ _ hA1).mono ?_; rintro e w4 ⟨v, rfl, rfl, hA2⟩)
            refine hK.out _ _ ⟨(atVm hA2 (by repeat (first | exact List.Mem.head _ | refine List.Mem.tail _ ?_)) (by simp [go_sem]) rfl), (atVm hA2 (by repeat (first | exact List.Mem.head _ | refine List.Mem.tail _ ?_)) (by simp [go_sem]) rfl), (atVm hA2 (by repeat (first | exact List.Mem.head _ | refine List.Mem.tail _ ?_)) (by simp [go_sem]) rfl), (atWm hA2 (by repeat (first | exact List.Mem.head _ | refine List.Mem.tail _ ?_)) Tryd.isAgg33 Tryd.sizeOf33 rfl)⟩ (fun hS => ?_)
            clear hK K
            try simp only [Act.put, sb, s0, sz]
            refine wpAnyH_ready (rs := [24]) (by kernel_rfl) (by simp) ?_
            refine (AllReadyH.cons (o := { dst := some 42, op := Go.Op.call { callee := Go.Callee.value (Go.Operand.func 50), args := #[Go.Operand.tmp 38, Go.Operand.tmp 41], argTypes := #[33, 9] }, type := 4, pos := "ref.go:55", after := #[{ on := 20, ground := Go.Ground.data }, { on := 23, ground := Go.Ground.data }, { on := 23, ground := Go.Ground.chain }, { on := 19, ground := Go.Ground.guard }], guard := some (19, false) }) rfl (fun K hK => ?_) AllReadyH.nil)
            (go_simp; refine (HDi.out _ _ (by repeat (first | exact List.suffix_refl _ | refine List.IsSuffix.trans ?_ (List.suffix_cons _ _))) hA2).mono ?_; rintro e w5 ⟨v, rfl, rfl, hA3⟩)
            refine hK.out _ _ ⟨(atVm hA3 (by repeat (first | exact List.Mem.head _ | refine List.Mem.tail _ ?_)) (by simp [go_sem]) rfl), (atVm hA3 (by repeat (first | exact List.Mem.head _ | refine List.Mem.tail _ ?_)) (by simp [go_sem]) rfl), (atVm hA3 (by repeat (first | exact List.Mem.head _ | refine List.Mem.tail _ ?_)) (by simp [go_sem]) rfl), (atWm hA3 (by repeat (first | exact List.Mem.head _ | refine List.Mem.tail _ ?_)) Tryd.isAgg33 Tryd.sizeOf33 rfl)⟩ (fun hS => ?_)
            clear hK K
            try simp only [Act.put, sb, s0, sz]
            refine takeW 25 ⟨some 43, .unOp Go.UnOp.not 4 (.tmp 42), 4, "ref.go:55", #[⟨24, .data⟩, ⟨19, .guard⟩], some (19, false)⟩ ?_ (.inl ⟨by rfl, ?_⟩) hS ?_
            rotate_left
            · (intro w hSw; (try dsimp only at hSw); go_simp; (try with_reducible rfl))
            try simp only [Act.put, sb, s0, sz]
            refine takeW 26 ⟨some 44, .pick (.tmp 37) (.const (.bool true)) (.tmp 43), 4, "ref.go:55", #[⟨19, .data⟩, ⟨25, .data⟩], none⟩ ?_ (.inl ⟨by rfl, ?_⟩) hS ?_
            rotate_left
            · (intro w hSw; (try dsimp only at hSw); go_simp; (try with_reducible rfl))
            try simp only [Act.put, sb, s0, sz]
            refine wpAnyH_done (by kernel_rfl) ?_ _
            replace hE := hA3
            clear hS
            try clear hA1
            try clear hA2
            try clear hA3
            clear HE2
            go_wp2_with (first
              | go_skip
              | ((with_reducible (show Go.wpList _ _ _ (Go.Oper.mk _ (.load 33 _) _ _ _ _ :: _) _ _)); (first | (refine wpl_loadW hE 0 rfl rfl rfl rfl Tryd.isAgg33 Tryd.sizeOf33 rfl ?_) | (refine wpl_loadW hE 1 rfl rfl rfl rfl Tryd.isAgg33 Tryd.sizeOf33 rfl ?_) | (refine wpl_loadW hE 2 rfl rfl rfl rfl Tryd.isAgg33 Tryd.sizeOf33 rfl ?_) | (refine wpl_loadW hE 3 rfl rfl rfl rfl Tryd.isAgg33 Tryd.sizeOf33 rfl ?_) | (refine wpl_loadW hE 4 rfl rfl rfl rfl Tryd.isAgg33 Tryd.sizeOf33 rfl ?_) | (refine wpl_loadW hE 5 rfl rfl rfl rfl Tryd.isAgg33 Tryd.sizeOf33 rfl ?_) | (refine wpl_loadW hE 6 rfl rfl rfl rfl Tryd.isAgg33 Tryd.sizeOf33 rfl ?_) | (refine wpl_loadW hE 7 rfl rfl rfl rfl Tryd.isAgg33 Tryd.sizeOf33 rfl ?_)))
              | ((with_reducible (show Go.wpList _ _ _ (Go.Oper.mk _ (.store 33 _ _) _ _ _ _ :: _) _ _)); (first | (refine wpl_storeW hE 0 rfl rfl rfl (xs := [.slice ao L.length c]) rfl rfl Tryd.sizeOf33 rfl (by simp [Value.oneCell']) rfl ?_) | (refine wpl_storeW hE 1 rfl rfl rfl (xs := [.slice ao L.length c]) rfl rfl Tryd.sizeOf33 rfl (by simp [Value.oneCell']) rfl ?_) | (refine wpl_storeW hE 2 rfl rfl rfl (xs := [.slice ao L.length c]) rfl rfl Tryd.sizeOf33 rfl (by simp [Value.oneCell']) rfl ?_) | (refine wpl_storeW hE 3 rfl rfl rfl (xs := [.slice ao L.length c]) rfl rfl Tryd.sizeOf33 rfl (by simp [Value.oneCell']) rfl ?_) | (refine wpl_storeW hE 4 rfl rfl rfl (xs := [.slice ao L.length c]) rfl rfl Tryd.sizeOf33 rfl (by simp [Value.oneCell']) rfl ?_) | (refine wpl_storeW hE 5 rfl rfl rfl (xs := [.slice ao L.length c]) rfl rfl Tryd.sizeOf33 rfl (by simp [Value.oneCell']) rfl ?_) | (refine wpl_storeW hE 6 rfl rfl rfl (xs := [.slice ao L.length c]) rfl rfl Tryd.sizeOf33 rfl (by simp [Value.oneCell']) rfl ?_) | (refine wpl_storeW hE 7 rfl rfl rfl (xs := [.slice ao L.length c]) rfl rfl Tryd.sizeOf33 rfl (by simp [Value.oneCell']) rfl ?_)); clear hE; intro w hE; simp only [List.set_cons_zero, List.set_cons_succ] at hE))
            refine bodyPost_ret (results_cell2 rfl hE 0 rfl rfl Tryd.isAgg33 Tryd.sizeOf33 rfl rfl) rfl ?_
            exact ⟨_, rfl, AddPost.bad HB.out (m := [_, _, _]) hE⟩
          | true =>
            have HE3 := SL.hid (HE2.out.trans (if_neg (by have h1 : xp ≠ [] := (by simpa using hA); simp [h1, hC])))
            clear HE2
            refine wp_region_held_drew (S := (fun w' => ((Instr.loadAt 9 (.pointer (some ⟨b3, 0, none⟩))).run Tryd.prog w' = .ok (.string ⟨xp.toArray⟩) w') ∧ ((Instr.loadAt 4 (.pointer (some ⟨b3, 1, none⟩))).run Tryd.prog w' = .ok (.bool false) w') ∧ ((Instr.loadAt 9 (.pointer (some ⟨b3, 2, none⟩))).run Tryd.prog w' = .ok (.string ⟨xb.toArray⟩) w') ∧ ((Instr.loadAt 33 (.pointer (some ⟨b2, 0, none⟩))).run Tryd.prog w' = .ok (.agg [.slice ao L.length c].toArray) w'))) (by kernel_rfl) ⟨(atVm hE.drew (by repeat (first | exact List.Mem.head _ | refine List.Mem.tail _ ?_)) (by simp [go_sem]) rfl), (atVm hE.drew (by repeat (first | exact List.Mem.head _ | refine List.Mem.tail _ ?_)) (by simp [go_sem]) rfl), (atVm hE.drew (by repeat (first | exact List.Mem.head _ | refine List.Mem.tail _ ?_)) (by simp [go_sem]) rfl), (atWm hE.drew (by repeat (first | exact List.Mem.head _ | refine List.Mem.tail _ ?_)) Tryd.isAgg33 Tryd.sizeOf33 rfl)⟩ (fun hS => ?_)
            refine takeW 0 ⟨some 18, .fieldAddr 41 (.tmp 3) 0, 0, "ref.go:55", #[], none⟩ ?_ (.inl ⟨by rfl, ?_⟩) hS ?_
            rotate_left
            · (intro w hSw; (try dsimp only at hSw); go_simp; (try with_reducible rfl))
            try simp only [Act.put, sb, s0, sz]
            refine takeW 1 ⟨some 19, .load 9 (.tmp 18), 9, "ref.go:55", #[⟨0, .data⟩], none⟩ ?_ (.inl ⟨by rfl, ?_⟩) hS ?_
            rotate_left
            · (intro w hSw; (try dsimp only at hSw); go_simp; (try with_reducible rfl))
            try simp only [Act.put, sb, s0, sz]
            refine takeW 2 ⟨some 20, .binOp .eql 9 (.tmp 19) (.const (.string { data := #[] })) 9, 4, "ref.go:55", #[⟨1, .data⟩], none⟩ ?_ (.inl ⟨by rfl, ?_⟩) hS ?_
            rotate_left
            · (intro w hSw; (try dsimp only at hSw); go_simp; (try with_reducible rfl))
            try simp only [Act.put, sb, s0, sz]
            refine takeW 3 ⟨some 21, .move (.tmp 20), 4, "ref.go:55", #[⟨2, .data⟩], none⟩ ?_ (.inl ⟨by rfl, ?_⟩) hS ?_
            rotate_left
            · (intro w hSw; (try dsimp only at hSw); go_simp; (try with_reducible rfl))
            try simp only [Act.put, sb, s0, sz]
            refine takeW 4 ⟨some 22, .fieldAddr 41 (.tmp 3) 1, 0, "ref.go:55", #[⟨3, .guard⟩], some (3, false)⟩ ?_ (.inl ⟨by rfl, ?_⟩) hS ?_
            rotate_left
            · (intro w hSw; (try dsimp only at hSw); go_simp; (try with_reducible rfl))
            try simp only [Act.put, sb, s0, sz]
            refine takeW 5 ⟨some 23, .load 4 (.tmp 22), 4, "ref.go:55", #[⟨4, .data⟩, ⟨3, .guard⟩], some (3, false)⟩ ?_ (.inl ⟨by rfl, ?_⟩) hS ?_
            rotate_left
            · (intro w hSw; (try dsimp only at hSw); go_simp; (try with_reducible rfl))
            try simp only [Act.put, sb, s0, sz]
            refine takeW 6 ⟨some 24, .move (.tmp 23), 4, "ref.go:55", #[⟨5, .data⟩, ⟨3, .chain⟩, ⟨3, .guard⟩], some (3, false)⟩ ?_ (.inl ⟨by rfl, ?_⟩) hS ?_
            rotate_left
            · (intro w hSw; (try dsimp only at hSw); go_simp; (try with_reducible rfl))
            try simp only [Act.put, sb, s0, sz]
            refine takeW 7 ⟨some 25, .fieldAddr 41 (.tmp 3) 2, 0, "ref.go:55", #[⟨6, .guard⟩], some (6, true)⟩ undef (.inr ⟨by rfl, rfl⟩) hS ?_; try simp only [Act.put, sb, s0, sz]
            refine takeW 8 ⟨some 26, .load 9 (.tmp 25), 9, "ref.go:55", #[⟨7, .data⟩, ⟨6, .guard⟩], some (6, true)⟩ undef (.inr ⟨by rfl, rfl⟩) hS ?_; try simp only [Act.put, sb, s0, sz]
            refine takeW 9 ⟨some 27, .binOp .neq 9 (.tmp 26) (.const (.string { data := #[] })) 9, 4, "ref.go:55", #[⟨8, .data⟩, ⟨6, .guard⟩], some (6, true)⟩ undef (.inr ⟨by rfl, rfl⟩) hS ?_; try simp only [Act.put, sb, s0, sz]
            refine takeW 10 ⟨some 28, .pick (.tmp 24) (.tmp 27) (.const (.bool false)), 4, "ref.go:55", #[⟨6, .data⟩, ⟨9, .data⟩, ⟨3, .guard⟩], some (3, false)⟩ ?_ (.inl ⟨by rfl, ?_⟩) hS ?_
            rotate_left
            · (intro w hSw; (try dsimp only at hSw); go_simp; (try with_reducible rfl))
            try simp only [Act.put, sb, s0, sz]
            refine takeW 11 ⟨some 29, .pick (.tmp 21) (.const (.bool true)) (.tmp 28), 4, "ref.go:55", #[⟨3, .data⟩, ⟨10, .data⟩], none⟩ ?_ (.inl ⟨by rfl, ?_⟩) hS ?_
            rotate_left
            · (intro w hSw; (try dsimp only at hSw); go_simp; (try with_reducible rfl))
            try simp only [Act.put, sb, s0, sz]
            refine takeW 12 ⟨some 30, .move (.tmp 29), 4, "ref.go:55", #[⟨11, .data⟩, ⟨6, .chain⟩], none⟩ ?_ (.inl ⟨by rfl, ?_⟩) hS ?_
            rotate_left
            · (intro w hSw; (try dsimp only at hSw); go_simp; (try with_reducible rfl))
            try simp only [Act.put, sb, s0, sz]
            refine takeW 13 ⟨some 31, .load 33 (.tmp 2), 33, "ref.go:55", #[⟨12, .guard⟩], some (12, false)⟩ ?_ (.inl ⟨by rfl, ?_⟩) hS ?_
            rotate_left
            · (intro w hSw; (try dsimp only at hSw); go_simp; (try with_reducible rfl))
            try simp only [Act.put, sb, s0, sz]
            refine takeW 14 ⟨some 32, .fieldAddr 41 (.tmp 3) 0, 0, "ref.go:55", #[⟨12, .guard⟩], some (12, false)⟩ ?_ (.inl ⟨by rfl, ?_⟩) hS ?_
            rotate_left
            · (intro w hSw; (try dsimp only at hSw); go_simp; (try with_reducible rfl))
            try simp only [Act.put, sb, s0, sz]
            refine takeW 15 ⟨some 33, .load 9 (.tmp 32), 9, "ref.go:55", #[⟨14, .data⟩, ⟨12, .guard⟩], some (12, false)⟩ ?_ (.inl ⟨by rfl, ?_⟩) hS ?_
            rotate_left
            · (intro w hSw; (try dsimp only at hSw); go_simp; (try with_reducible rfl))
            try simp only [Act.put, sb, s0, sz]
            refine wpAnyH_ready (rs := [16]) (by kernel_rfl) (by simp) ?_
            refine (AllReadyH.cons (o := { dst := some 34, op := Go.Op.call { callee := Go.Callee.value (Go.Operand.func 49), args := #[Go.Operand.tmp 31, Go.Operand.tmp 33], argTypes := #[33, 9] }, type := 3, pos := "ref.go:55", after := #[{ on := 13, ground := Go.Ground.data }, { on := 15, ground := Go.Ground.data }, { on := 12, ground := Go.Ground.chain }, { on := 12, ground := Go.Ground.guard }], guard := some (12, false) }) rfl (fun K hK => ?_) AllReadyH.nil)
            (go_simp; refine (HAt.out _ _ (by repeat (first | exact List.suffix_refl _ | refine List.IsSuffix.trans ?_ (List.suffix_cons _ _))) hE.drew).mono ?_; rintro e w3 ⟨v, rfl, rfl, hA1⟩)
            refine hK.out _ _ ⟨(atVm hA1 (by repeat (first | exact List.Mem.head _ | refine List.Mem.tail _ ?_)) (by simp [go_sem]) rfl), (atVm hA1 (by repeat (first | exact List.Mem.head _ | refine List.Mem.tail _ ?_)) (by simp [go_sem]) rfl), (atVm hA1 (by repeat (first | exact List.Mem.head _ | refine List.Mem.tail _ ?_)) (by simp [go_sem]) rfl), (atWm hA1 (by repeat (first | exact List.Mem.head _ | refine List.Mem.tail _ ?_)) Tryd.isAgg33 Tryd.sizeOf33 rfl)⟩ (fun hS => ?_)
            clear hK K
            try simp only [Act.put, sb, s0, sz]
            refine takeW 17 ⟨some 35, .binOp .geq 3 (.tmp 34) (.const (.int .i64 0)) 3, 4, "ref.go:55", #[⟨16, .data⟩, ⟨12, .guard⟩], some (12, false)⟩ ?_ (.inl ⟨by rfl, ?_⟩) hS ?_
            rotate_left
            · (intro w hSw; (try dsimp only at hSw); go_simp; (try with_reducible rfl))
            try simp only [Act.put, sb, s0, sz]
            refine takeW 18 ⟨some 36, .pick (.tmp 30) (.const (.bool true)) (.tmp 35), 4, "ref.go:55", #[⟨12, .data⟩, ⟨17, .data⟩], none⟩ ?_ (.inl ⟨by rfl, ?_⟩) hS ?_
            rotate_left
            · (intro w hSw; (try dsimp only at hSw); go_simp; (try with_reducible rfl))
            try simp only [Act.put, sb, s0, sz]
            refine takeW 19 ⟨some 37, .move (.tmp 36), 4, "ref.go:55", #[⟨18, .data⟩, ⟨16, .chain⟩], none⟩ ?_ (.inl ⟨by rfl, ?_⟩) hS ?_
            rotate_left
            · (intro w hSw; (try dsimp only at hSw); go_simp; (try with_reducible rfl))
            try simp only [Act.put, sb, s0, sz]
            refine takeW 20 ⟨some 38, .load 33 (.tmp 2), 33, "ref.go:55", #[⟨19, .guard⟩], some (19, false)⟩ ?_ (.inl ⟨by rfl, ?_⟩) hS ?_
            rotate_left
            · (intro w hSw; (try dsimp only at hSw); go_simp; (try with_reducible rfl))
            try simp only [Act.put, sb, s0, sz]
            refine takeW 21 ⟨some 39, .fieldAddr 41 (.tmp 3) 0, 0, "ref.go:55", #[⟨19, .guard⟩], some (19, false)⟩ ?_ (.inl ⟨by rfl, ?_⟩) hS ?_
            rotate_left
            · (intro w hSw; (try dsimp only at hSw); go_simp; (try with_reducible rfl))
            try simp only [Act.put, sb, s0, sz]
            refine takeW 22 ⟨some 40, .load 9 (.tmp 39), 9, "ref.go:55", #[⟨21, .data⟩, ⟨19, .guard⟩], some (19, false)⟩ ?_ (.inl ⟨by rfl, ?_⟩) hS ?_
            rotate_left
            · (intro w hSw; (try dsimp only at hSw); go_simp; (try with_reducible rfl))
            try simp only [Act.put, sb, s0, sz]
            refine wpAnyH_ready (rs := [23]) (by kernel_rfl) (by simp) ?_
            refine (AllReadyH.cons (o := { dst := some 41, op := Go.Op.call { callee := Go.Callee.value (Go.Operand.func 51), args := #[Go.Operand.tmp 40], argTypes := #[9] }, type := 9, pos := "ref.go:55", after := #[{ on := 22, ground := Go.Ground.data }, { on := 19, ground := Go.Ground.chain }, { on := 19, ground := Go.Ground.guard }], guard := some (19, false) }) rfl (fun K hK => ?_) AllReadyH.nil)
            (go_simp; refine (HPa.out _ _ hA1).mono ?_; rintro e w4 ⟨v, rfl, rfl, hA2⟩)
            refine hK.out _ _ ⟨(atVm hA2 (by repeat (first | exact List.Mem.head _ | refine List.Mem.tail _ ?_)) (by simp [go_sem]) rfl), (atVm hA2 (by repeat (first | exact List.Mem.head _ | refine List.Mem.tail _ ?_)) (by simp [go_sem]) rfl), (atVm hA2 (by repeat (first | exact List.Mem.head _ | refine List.Mem.tail _ ?_)) (by simp [go_sem]) rfl), (atWm hA2 (by repeat (first | exact List.Mem.head _ | refine List.Mem.tail _ ?_)) Tryd.isAgg33 Tryd.sizeOf33 rfl)⟩ (fun hS => ?_)
            clear hK K
            try simp only [Act.put, sb, s0, sz]
            refine wpAnyH_ready (rs := [24]) (by kernel_rfl) (by simp) ?_
            refine (AllReadyH.cons (o := { dst := some 42, op := Go.Op.call { callee := Go.Callee.value (Go.Operand.func 50), args := #[Go.Operand.tmp 38, Go.Operand.tmp 41], argTypes := #[33, 9] }, type := 4, pos := "ref.go:55", after := #[{ on := 20, ground := Go.Ground.data }, { on := 23, ground := Go.Ground.data }, { on := 23, ground := Go.Ground.chain }, { on := 19, ground := Go.Ground.guard }], guard := some (19, false) }) rfl (fun K hK => ?_) AllReadyH.nil)
            (go_simp; refine (HDi.out _ _ (by repeat (first | exact List.suffix_refl _ | refine List.IsSuffix.trans ?_ (List.suffix_cons _ _))) hA2).mono ?_; rintro e w5 ⟨v, rfl, rfl, hA3⟩)
            refine hK.out _ _ ⟨(atVm hA3 (by repeat (first | exact List.Mem.head _ | refine List.Mem.tail _ ?_)) (by simp [go_sem]) rfl), (atVm hA3 (by repeat (first | exact List.Mem.head _ | refine List.Mem.tail _ ?_)) (by simp [go_sem]) rfl), (atVm hA3 (by repeat (first | exact List.Mem.head _ | refine List.Mem.tail _ ?_)) (by simp [go_sem]) rfl), (atWm hA3 (by repeat (first | exact List.Mem.head _ | refine List.Mem.tail _ ?_)) Tryd.isAgg33 Tryd.sizeOf33 rfl)⟩ (fun hS => ?_)
            clear hK K
            try simp only [Act.put, sb, s0, sz]
            refine takeW 25 ⟨some 43, .unOp Go.UnOp.not 4 (.tmp 42), 4, "ref.go:55", #[⟨24, .data⟩, ⟨19, .guard⟩], some (19, false)⟩ ?_ (.inl ⟨by rfl, ?_⟩) hS ?_
            rotate_left
            · (intro w hSw; (try dsimp only at hSw); go_simp; (try with_reducible rfl))
            try simp only [Act.put, sb, s0, sz]
            refine takeW 26 ⟨some 44, .pick (.tmp 37) (.const (.bool true)) (.tmp 43), 4, "ref.go:55", #[⟨19, .data⟩, ⟨25, .data⟩], none⟩ ?_ (.inl ⟨by rfl, ?_⟩) hS ?_
            rotate_left
            · (intro w hSw; (try dsimp only at hSw); go_simp; (try with_reducible rfl))
            try simp only [Act.put, sb, s0, sz]
            refine wpAnyH_done (by kernel_rfl) ?_ _
            replace hE := hA3
            clear hS
            try clear hA1
            try clear hA2
            try clear hA3
            cases hG : decide ((8192 : Int) < (xb.length : Int)) with
            | true =>
              have hG2 := of_decide_eq_true hG
              have HB := SL.hid (show addE L _ = 6 ∧ (6 : Int) ≠ 0 from ⟨HE3.out.trans (if_pos (.inl (by omega))), by decide⟩)
              try clear hG2
              try clear h62
              go_wp2
              refine wp_region_held_drew (S := (fun w' => ((Instr.loadAt 9 (.pointer (some ⟨b3, 0, none⟩))).run Tryd.prog w' = .ok (.string ⟨xp.toArray⟩) w') ∧ ((Instr.loadAt 9 (.pointer (some ⟨b3, 2, none⟩))).run Tryd.prog w' = .ok (.string ⟨xb.toArray⟩) w') ∧ ((Instr.loadAt 33 (.pointer (some ⟨b2, 0, none⟩))).run Tryd.prog w' = .ok (.agg [.slice ao L.length c].toArray) w'))) (by kernel_rfl) ⟨(atVm hE.drew (by repeat (first | exact List.Mem.head _ | refine List.Mem.tail _ ?_)) (by simp [go_sem]) rfl), (atVm hE.drew (by repeat (first | exact List.Mem.head _ | refine List.Mem.tail _ ?_)) (by simp [go_sem]) rfl), (atWm hE.drew (by repeat (first | exact List.Mem.head _ | refine List.Mem.tail _ ?_)) Tryd.isAgg33 Tryd.sizeOf33 rfl)⟩ (fun hS => ?_)
              refine takeW 0 ⟨some 46, .fieldAddr 41 (.tmp 3) 2, 0, "ref.go:58", #[], none⟩ ?_ (.inl ⟨by rfl, ?_⟩) hS ?_
              rotate_left
              · (intro w hSw; (try dsimp only at hSw); go_simp; (try with_reducible rfl))
              try simp only [Act.put, sb, s0, sz]
              refine takeW 1 ⟨some 47, .load 9 (.tmp 46), 9, "ref.go:58", #[⟨0, .data⟩], none⟩ ?_ (.inl ⟨by rfl, ?_⟩) hS ?_
              rotate_left
              · (intro w hSw; (try dsimp only at hSw); go_simp; (try with_reducible rfl))
              try simp only [Act.put, sb, s0, sz]
              refine takeW 2 ⟨some 48, .call { callee := .builtin .len, args := #[.tmp 47], argTypes := #[9] }, 3, "ref.go:58", #[⟨1, .data⟩], none⟩ ?_ (.inl ⟨by rfl, ?_⟩) hS ?_
              rotate_left
              · (intro w hSw; (try dsimp only at hSw); go_simp; (try with_reducible rfl))
              try simp only [Act.put, sb, s0, sz]
              refine takeW 3 ⟨some 49, .binOp .gtr 3 (.tmp 48) (.const (.int .i64 8192)) 3, 4, "ref.go:58", #[⟨2, .data⟩], none⟩ ?_ (.inl ⟨by rfl, ?_⟩) hS ?_
              rotate_left
              · (intro w hSw; (try dsimp only at hSw); go_simp; (try with_reducible rfl))
              try simp only [Act.put, sb, s0, sz]
              refine takeW 4 ⟨some 50, .move (.tmp 49), 4, "ref.go:58", #[⟨3, .data⟩], none⟩ ?_ (.inl ⟨by rfl, ?_⟩) hS ?_
              rotate_left
              · (intro w hSw; (try dsimp only at hSw); go_simp; (try with_reducible rfl))
              try simp only [Act.put, sb, s0, sz]
              refine takeW 5 ⟨some 51, .load 33 (.tmp 2), 33, "ref.go:58", #[⟨4, .guard⟩], some (4, false)⟩ undef (.inr ⟨by rfl, rfl⟩) hS ?_; try simp only [Act.put, sb, s0, sz]
              refine takeW 6 ⟨some 52, .fieldAddr 41 (.tmp 3) 0, 0, "ref.go:58", #[⟨4, .guard⟩], some (4, false)⟩ undef (.inr ⟨by rfl, rfl⟩) hS ?_; try simp only [Act.put, sb, s0, sz]
              refine takeW 7 ⟨some 53, .load 9 (.tmp 52), 9, "ref.go:58", #[⟨6, .data⟩, ⟨4, .guard⟩], some (4, false)⟩ undef (.inr ⟨by rfl, rfl⟩) hS ?_; try simp only [Act.put, sb, s0, sz]
              refine takeW 8 ⟨some 54, .call { callee := .value (.func 51), args := #[.tmp 53], argTypes := #[9] }, 9, "ref.go:58", #[⟨7, .data⟩, ⟨4, .chain⟩, ⟨4, .guard⟩], some (4, false)⟩ undef (.inr ⟨by rfl, rfl⟩) hS ?_; try simp only [Act.put, sb, s0, sz]
              refine takeW 9 ⟨some 55, .call { callee := .value (.func 36), args := #[.tmp 51, .tmp 54], argTypes := #[33, 9] }, 72, "ref.go:58", #[⟨5, .data⟩, ⟨8, .data⟩, ⟨8, .chain⟩, ⟨4, .guard⟩], some (4, false)⟩ undef (.inr ⟨by rfl, rfl⟩) hS ?_; try simp only [Act.put, sb, s0, sz]
              refine takeW 10 ⟨some 56, .call { callee := .builtin .len, args := #[.tmp 55], argTypes := #[72] }, 3, "ref.go:58", #[⟨9, .data⟩, ⟨4, .guard⟩], some (4, false)⟩ undef (.inr ⟨by rfl, rfl⟩) hS ?_; try simp only [Act.put, sb, s0, sz]
              refine takeW 11 ⟨some 57, .binOp .geq 3 (.tmp 56) (.const (.int .i64 6)) 3, 4, "ref.go:58", #[⟨10, .data⟩, ⟨4, .guard⟩], some (4, false)⟩ undef (.inr ⟨by rfl, rfl⟩) hS ?_; try simp only [Act.put, sb, s0, sz]
              refine takeW 12 ⟨some 58, .pick (.tmp 50) (.const (.bool true)) (.tmp 57), 4, "ref.go:58", #[⟨4, .data⟩, ⟨11, .data⟩], none⟩ ?_ (.inl ⟨by rfl, ?_⟩) hS ?_
              rotate_left
              · (intro w hSw; (try dsimp only at hSw); go_simp; (try with_reducible rfl))
              try simp only [Act.put, sb, s0, sz]
              refine wpAnyH_done (by kernel_rfl) ?_ _
              replace hE := hE.drew
              clear hS
              clear HE3
              go_wp2_with (first
                | go_skip
                | ((with_reducible (show Go.wpList _ _ _ (Go.Oper.mk _ (.load 33 _) _ _ _ _ :: _) _ _)); (first | (refine wpl_loadW hE 0 rfl rfl rfl rfl Tryd.isAgg33 Tryd.sizeOf33 rfl ?_) | (refine wpl_loadW hE 1 rfl rfl rfl rfl Tryd.isAgg33 Tryd.sizeOf33 rfl ?_) | (refine wpl_loadW hE 2 rfl rfl rfl rfl Tryd.isAgg33 Tryd.sizeOf33 rfl ?_) | (refine wpl_loadW hE 3 rfl rfl rfl rfl Tryd.isAgg33 Tryd.sizeOf33 rfl ?_) | (refine wpl_loadW hE 4 rfl rfl rfl rfl Tryd.isAgg33 Tryd.sizeOf33 rfl ?_) | (refine wpl_loadW hE 5 rfl rfl rfl rfl Tryd.isAgg33 Tryd.sizeOf33 rfl ?_) | (refine wpl_loadW hE 6 rfl rfl rfl rfl Tryd.isAgg33 Tryd.sizeOf33 rfl ?_) | (refine wpl_loadW hE 7 rfl rfl rfl rfl Tryd.isAgg33 Tryd.sizeOf33 rfl ?_)))
                | ((with_reducible (show Go.wpList _ _ _ (Go.Oper.mk _ (.store 33 _ _) _ _ _ _ :: _) _ _)); (first | (refine wpl_storeW hE 0 rfl rfl rfl (xs := [.slice ao L.length c]) rfl rfl Tryd.sizeOf33 rfl (by simp [Value.oneCell']) rfl ?_) | (refine wpl_storeW hE 1 rfl rfl rfl (xs := [.slice ao L.length c]) rfl rfl Tryd.sizeOf33 rfl (by simp [Value.oneCell']) rfl ?_) | (refine wpl_storeW hE 2 rfl rfl rfl (xs := [.slice ao L.length c]) rfl rfl Tryd.sizeOf33 rfl (by simp [Value.oneCell']) rfl ?_) | (refine wpl_storeW hE 3 rfl rfl rfl (xs := [.slice ao L.length c]) rfl rfl Tryd.sizeOf33 rfl (by simp [Value.oneCell']) rfl ?_) | (refine wpl_storeW hE 4 rfl rfl rfl (xs := [.slice ao L.length c]) rfl rfl Tryd.sizeOf33 rfl (by simp [Value.oneCell']) rfl ?_) | (refine wpl_storeW hE 5 rfl rfl rfl (xs := [.slice ao L.length c]) rfl rfl Tryd.sizeOf33 rfl (by simp [Value.oneCell']) rfl ?_) | (refine wpl_storeW hE 6 rfl rfl rfl (xs := [.slice ao L.length c]) rfl rfl Tryd.sizeOf33 rfl (by simp [Value.oneCell']) rfl ?_) | (refine wpl_storeW hE 7 rfl rfl rfl (xs := [.slice ao L.length c]) rfl rfl Tryd.sizeOf33 rfl (by simp [Value.oneCell']) rfl ?_)); clear hE; intro w hE; simp only [List.set_cons_zero, List.set_cons_succ] at hE))
              refine bodyPost_ret (results_cell2 rfl hE 0 rfl rfl Tryd.isAgg33 Tryd.sizeOf33 rfl rfl) rfl ?_
              exact ⟨_, rfl, AddPost.bad HB.out (m := [_, _, _]) hE⟩
            | false =>
              have hG2 := of_decide_eq_false hG
              cases h6 : decide ((6 : Int) ≤ (ki.length : Int)) with
              | true =>
                have h62 := of_decide_eq_true h6
                have HB := SL.hid (show addE L _ = 6 ∧ (6 : Int) ≠ 0 from ⟨HE3.out.trans (if_pos (.inr (by omega))), by decide⟩)
                try clear hG2
                try clear h62
                go_wp2
                refine wp_region_held_drew (S := (fun w' => ((Instr.loadAt 9 (.pointer (some ⟨b3, 0, none⟩))).run Tryd.prog w' = .ok (.string ⟨xp.toArray⟩) w') ∧ ((Instr.loadAt 9 (.pointer (some ⟨b3, 2, none⟩))).run Tryd.prog w' = .ok (.string ⟨xb.toArray⟩) w') ∧ ((Instr.loadAt 33 (.pointer (some ⟨b2, 0, none⟩))).run Tryd.prog w' = .ok (.agg [.slice ao L.length c].toArray) w'))) (by kernel_rfl) ⟨(atVm hE.drew (by repeat (first | exact List.Mem.head _ | refine List.Mem.tail _ ?_)) (by simp [go_sem]) rfl), (atVm hE.drew (by repeat (first | exact List.Mem.head _ | refine List.Mem.tail _ ?_)) (by simp [go_sem]) rfl), (atWm hE.drew (by repeat (first | exact List.Mem.head _ | refine List.Mem.tail _ ?_)) Tryd.isAgg33 Tryd.sizeOf33 rfl)⟩ (fun hS => ?_)
                refine takeW 0 ⟨some 46, .fieldAddr 41 (.tmp 3) 2, 0, "ref.go:58", #[], none⟩ ?_ (.inl ⟨by rfl, ?_⟩) hS ?_
                rotate_left
                · (intro w hSw; (try dsimp only at hSw); go_simp; (try with_reducible rfl))
                try simp only [Act.put, sb, s0, sz]
                refine takeW 1 ⟨some 47, .load 9 (.tmp 46), 9, "ref.go:58", #[⟨0, .data⟩], none⟩ ?_ (.inl ⟨by rfl, ?_⟩) hS ?_
                rotate_left
                · (intro w hSw; (try dsimp only at hSw); go_simp; (try with_reducible rfl))
                try simp only [Act.put, sb, s0, sz]
                refine takeW 2 ⟨some 48, .call { callee := .builtin .len, args := #[.tmp 47], argTypes := #[9] }, 3, "ref.go:58", #[⟨1, .data⟩], none⟩ ?_ (.inl ⟨by rfl, ?_⟩) hS ?_
                rotate_left
                · (intro w hSw; (try dsimp only at hSw); go_simp; (try with_reducible rfl))
                try simp only [Act.put, sb, s0, sz]
                refine takeW 3 ⟨some 49, .binOp .gtr 3 (.tmp 48) (.const (.int .i64 8192)) 3, 4, "ref.go:58", #[⟨2, .data⟩], none⟩ ?_ (.inl ⟨by rfl, ?_⟩) hS ?_
                rotate_left
                · (intro w hSw; (try dsimp only at hSw); go_simp; (try with_reducible rfl))
                try simp only [Act.put, sb, s0, sz]
                refine takeW 4 ⟨some 50, .move (.tmp 49), 4, "ref.go:58", #[⟨3, .data⟩], none⟩ ?_ (.inl ⟨by rfl, ?_⟩) hS ?_
                rotate_left
                · (intro w hSw; (try dsimp only at hSw); go_simp; (try with_reducible rfl))
                try simp only [Act.put, sb, s0, sz]
                refine takeW 5 ⟨some 51, .load 33 (.tmp 2), 33, "ref.go:58", #[⟨4, .guard⟩], some (4, false)⟩ ?_ (.inl ⟨by rfl, ?_⟩) hS ?_
                rotate_left
                · (intro w hSw; (try dsimp only at hSw); go_simp; (try with_reducible rfl))
                try simp only [Act.put, sb, s0, sz]
                refine takeW 6 ⟨some 52, .fieldAddr 41 (.tmp 3) 0, 0, "ref.go:58", #[⟨4, .guard⟩], some (4, false)⟩ ?_ (.inl ⟨by rfl, ?_⟩) hS ?_
                rotate_left
                · (intro w hSw; (try dsimp only at hSw); go_simp; (try with_reducible rfl))
                try simp only [Act.put, sb, s0, sz]
                refine takeW 7 ⟨some 53, .load 9 (.tmp 52), 9, "ref.go:58", #[⟨6, .data⟩, ⟨4, .guard⟩], some (4, false)⟩ ?_ (.inl ⟨by rfl, ?_⟩) hS ?_
                rotate_left
                · (intro w hSw; (try dsimp only at hSw); go_simp; (try with_reducible rfl))
                try simp only [Act.put, sb, s0, sz]
                refine wpAnyH_ready (rs := [8]) (by kernel_rfl) (by simp) ?_
                refine (AllReadyH.cons (o := { dst := some 54, op := Go.Op.call { callee := Go.Callee.value (Go.Operand.func 51), args := #[Go.Operand.tmp 53], argTypes := #[9] }, type := 9, pos := "ref.go:58", after := #[{ on := 7, ground := Go.Ground.data }, { on := 4, ground := Go.Ground.chain }, { on := 4, ground := Go.Ground.guard }], guard := some (4, false) }) rfl (fun K hK => ?_) AllReadyH.nil)
                (go_simp; refine (HPa.out _ _ hE.drew).mono ?_; rintro e w4 ⟨v, rfl, rfl, hA1⟩)
                refine hK.out _ _ ⟨(atVm hA1 (by repeat (first | exact List.Mem.head _ | refine List.Mem.tail _ ?_)) (by simp [go_sem]) rfl), (atVm hA1 (by repeat (first | exact List.Mem.head _ | refine List.Mem.tail _ ?_)) (by simp [go_sem]) rfl), (atWm hA1 (by repeat (first | exact List.Mem.head _ | refine List.Mem.tail _ ?_)) Tryd.isAgg33 Tryd.sizeOf33 rfl)⟩ (fun hS => ?_)
                clear hK K
                try simp only [Act.put, sb, s0, sz]
                refine wpAnyH_ready (rs := [9]) (by kernel_rfl) (by simp) ?_
                refine (AllReadyH.cons (o := { dst := some 55, op := Go.Op.call { callee := Go.Callee.value (Go.Operand.func 36), args := #[Go.Operand.tmp 51, Go.Operand.tmp 54], argTypes := #[33, 9] }, type := 72, pos := "ref.go:58", after := #[{ on := 5, ground := Go.Ground.data }, { on := 8, ground := Go.Ground.data }, { on := 8, ground := Go.Ground.chain }, { on := 4, ground := Go.Ground.guard }], guard := some (4, false) }) rfl (fun K hK => ?_) AllReadyH.nil)
                (go_simp; refine (HKi.out _ _ (by repeat (first | exact List.suffix_refl _ | refine List.IsSuffix.trans ?_ (List.suffix_cons _ _))) hA1).mono ?_; rintro e w5 ⟨v, rfl, ka, kc, rfl, hA2⟩)
                refine hK.out _ _ ⟨(atVm hA2 (by repeat (first | exact List.Mem.head _ | refine List.Mem.tail _ ?_)) (by simp [go_sem]) rfl), (atVm hA2 (by repeat (first | exact List.Mem.head _ | refine List.Mem.tail _ ?_)) (by simp [go_sem]) rfl), (atWm hA2 (by repeat (first | exact List.Mem.head _ | refine List.Mem.tail _ ?_)) Tryd.isAgg33 Tryd.sizeOf33 rfl)⟩ (fun hS => ?_)
                clear hK K
                try simp only [Act.put, sb, s0, sz]
                refine takeW 10 ⟨some 56, .call { callee := .builtin .len, args := #[.tmp 55], argTypes := #[72] }, 3, "ref.go:58", #[⟨9, .data⟩, ⟨4, .guard⟩], some (4, false)⟩ ?_ (.inl ⟨by rfl, ?_⟩) hS ?_
                rotate_left
                · (intro w hSw; (try dsimp only at hSw); go_simp; (try with_reducible rfl))
                try simp only [Act.put, sb, s0, sz]
                refine takeW 11 ⟨some 57, .binOp .geq 3 (.tmp 56) (.const (.int .i64 6)) 3, 4, "ref.go:58", #[⟨10, .data⟩, ⟨4, .guard⟩], some (4, false)⟩ ?_ (.inl ⟨by rfl, ?_⟩) hS ?_
                rotate_left
                · (intro w hSw; (try dsimp only at hSw); go_simp; (try with_reducible rfl))
                try simp only [Act.put, sb, s0, sz]
                refine takeW 12 ⟨some 58, .pick (.tmp 50) (.const (.bool true)) (.tmp 57), 4, "ref.go:58", #[⟨4, .data⟩, ⟨11, .data⟩], none⟩ ?_ (.inl ⟨by rfl, ?_⟩) hS ?_
                rotate_left
                · (intro w hSw; (try dsimp only at hSw); go_simp; (try with_reducible rfl))
                try simp only [Act.put, sb, s0, sz]
                refine wpAnyH_done (by kernel_rfl) ?_ _
                replace hE := hA2.tail
                clear hS
                try clear hA1
                try clear hA2
                try clear hA3
                clear HE3
                go_wp2_with (first
                  | go_skip
                  | ((with_reducible (show Go.wpList _ _ _ (Go.Oper.mk _ (.load 33 _) _ _ _ _ :: _) _ _)); (first | (refine wpl_loadW hE 0 rfl rfl rfl rfl Tryd.isAgg33 Tryd.sizeOf33 rfl ?_) | (refine wpl_loadW hE 1 rfl rfl rfl rfl Tryd.isAgg33 Tryd.sizeOf33 rfl ?_) | (refine wpl_loadW hE 2 rfl rfl rfl rfl Tryd.isAgg33 Tryd.sizeOf33 rfl ?_) | (refine wpl_loadW hE 3 rfl rfl rfl rfl Tryd.isAgg33 Tryd.sizeOf33 rfl ?_) | (refine wpl_loadW hE 4 rfl rfl rfl rfl Tryd.isAgg33 Tryd.sizeOf33 rfl ?_) | (refine wpl_loadW hE 5 rfl rfl rfl rfl Tryd.isAgg33 Tryd.sizeOf33 rfl ?_) | (refine wpl_loadW hE 6 rfl rfl rfl rfl Tryd.isAgg33 Tryd.sizeOf33 rfl ?_) | (refine wpl_loadW hE 7 rfl rfl rfl rfl Tryd.isAgg33 Tryd.sizeOf33 rfl ?_)))
                  | ((with_reducible (show Go.wpList _ _ _ (Go.Oper.mk _ (.store 33 _ _) _ _ _ _ :: _) _ _)); (first | (refine wpl_storeW hE 0 rfl rfl rfl (xs := [.slice ao L.length c]) rfl rfl Tryd.sizeOf33 rfl (by simp [Value.oneCell']) rfl ?_) | (refine wpl_storeW hE 1 rfl rfl rfl (xs := [.slice ao L.length c]) rfl rfl Tryd.sizeOf33 rfl (by simp [Value.oneCell']) rfl ?_) | (refine wpl_storeW hE 2 rfl rfl rfl (xs := [.slice ao L.length c]) rfl rfl Tryd.sizeOf33 rfl (by simp [Value.oneCell']) rfl ?_) | (refine wpl_storeW hE 3 rfl rfl rfl (xs := [.slice ao L.length c]) rfl rfl Tryd.sizeOf33 rfl (by simp [Value.oneCell']) rfl ?_) | (refine wpl_storeW hE 4 rfl rfl rfl (xs := [.slice ao L.length c]) rfl rfl Tryd.sizeOf33 rfl (by simp [Value.oneCell']) rfl ?_) | (refine wpl_storeW hE 5 rfl rfl rfl (xs := [.slice ao L.length c]) rfl rfl Tryd.sizeOf33 rfl (by simp [Value.oneCell']) rfl ?_) | (refine wpl_storeW hE 6 rfl rfl rfl (xs := [.slice ao L.length c]) rfl rfl Tryd.sizeOf33 rfl (by simp [Value.oneCell']) rfl ?_) | (refine wpl_storeW hE 7 rfl rfl rfl (xs := [.slice ao L.length c]) rfl rfl Tryd.sizeOf33 rfl (by simp [Value.oneCell']) rfl ?_)); clear hE; intro w hE; simp only [List.set_cons_zero, List.set_cons_succ] at hE))
                refine bodyPost_ret (results_cell2 rfl hE 0 rfl rfl Tryd.isAgg33 Tryd.sizeOf33 rfl rfl) rfl ?_
                exact ⟨_, rfl, AddPost.bad HB.out (m := [_, _, _]) hE⟩
              | false =>
                have h62 := of_decide_eq_false h6
                have HB := SL.hid (show addE L _ = 0 from HE3.out.trans (if_neg (by omega)))
                try clear hG2
                try clear h62
                go_wp2
                refine wp_region_held_drew (S := (fun w' => ((Instr.loadAt 9 (.pointer (some ⟨b3, 0, none⟩))).run Tryd.prog w' = .ok (.string ⟨xp.toArray⟩) w') ∧ ((Instr.loadAt 9 (.pointer (some ⟨b3, 2, none⟩))).run Tryd.prog w' = .ok (.string ⟨xb.toArray⟩) w') ∧ ((Instr.loadAt 33 (.pointer (some ⟨b2, 0, none⟩))).run Tryd.prog w' = .ok (.agg [.slice ao L.length c].toArray) w'))) (by kernel_rfl) ⟨(atVm hE.drew (by repeat (first | exact List.Mem.head _ | refine List.Mem.tail _ ?_)) (by simp [go_sem]) rfl), (atVm hE.drew (by repeat (first | exact List.Mem.head _ | refine List.Mem.tail _ ?_)) (by simp [go_sem]) rfl), (atWm hE.drew (by repeat (first | exact List.Mem.head _ | refine List.Mem.tail _ ?_)) Tryd.isAgg33 Tryd.sizeOf33 rfl)⟩ (fun hS => ?_)
                refine takeW 0 ⟨some 46, .fieldAddr 41 (.tmp 3) 2, 0, "ref.go:58", #[], none⟩ ?_ (.inl ⟨by rfl, ?_⟩) hS ?_
                rotate_left
                · (intro w hSw; (try dsimp only at hSw); go_simp; (try with_reducible rfl))
                try simp only [Act.put, sb, s0, sz]
                refine takeW 1 ⟨some 47, .load 9 (.tmp 46), 9, "ref.go:58", #[⟨0, .data⟩], none⟩ ?_ (.inl ⟨by rfl, ?_⟩) hS ?_
                rotate_left
                · (intro w hSw; (try dsimp only at hSw); go_simp; (try with_reducible rfl))
                try simp only [Act.put, sb, s0, sz]
                refine takeW 2 ⟨some 48, .call { callee := .builtin .len, args := #[.tmp 47], argTypes := #[9] }, 3, "ref.go:58", #[⟨1, .data⟩], none⟩ ?_ (.inl ⟨by rfl, ?_⟩) hS ?_
                rotate_left
                · (intro w hSw; (try dsimp only at hSw); go_simp; (try with_reducible rfl))
                try simp only [Act.put, sb, s0, sz]
                refine takeW 3 ⟨some 49, .binOp .gtr 3 (.tmp 48) (.const (.int .i64 8192)) 3, 4, "ref.go:58", #[⟨2, .data⟩], none⟩ ?_ (.inl ⟨by rfl, ?_⟩) hS ?_
                rotate_left
                · (intro w hSw; (try dsimp only at hSw); go_simp; (try with_reducible rfl))
                try simp only [Act.put, sb, s0, sz]
                refine takeW 4 ⟨some 50, .move (.tmp 49), 4, "ref.go:58", #[⟨3, .data⟩], none⟩ ?_ (.inl ⟨by rfl, ?_⟩) hS ?_
                rotate_left
                · (intro w hSw; (try dsimp only at hSw); go_simp; (try with_reducible rfl))
                try simp only [Act.put, sb, s0, sz]
                refine takeW 5 ⟨some 51, .load 33 (.tmp 2), 33, "ref.go:58", #[⟨4, .guard⟩], some (4, false)⟩ ?_ (.inl ⟨by rfl, ?_⟩) hS ?_
                rotate_left
                · (intro w hSw; (try dsimp only at hSw); go_simp; (try with_reducible rfl))
                try simp only [Act.put, sb, s0, sz]
                refine takeW 6 ⟨some 52, .fieldAddr 41 (.tmp 3) 0, 0, "ref.go:58", #[⟨4, .guard⟩], some (4, false)⟩ ?_ (.inl ⟨by rfl, ?_⟩) hS ?_
                rotate_left
                · (intro w hSw; (try dsimp only at hSw); go_simp; (try with_reducible rfl))
                try simp only [Act.put, sb, s0, sz]
                refine takeW 7 ⟨some 53, .load 9 (.tmp 52), 9, "ref.go:58", #[⟨6, .data⟩, ⟨4, .guard⟩], some (4, false)⟩ ?_ (.inl ⟨by rfl, ?_⟩) hS ?_
                rotate_left
                · (intro w hSw; (try dsimp only at hSw); go_simp; (try with_reducible rfl))
                try simp only [Act.put, sb, s0, sz]
                refine wpAnyH_ready (rs := [8]) (by kernel_rfl) (by simp) ?_
                refine (AllReadyH.cons (o := { dst := some 54, op := Go.Op.call { callee := Go.Callee.value (Go.Operand.func 51), args := #[Go.Operand.tmp 53], argTypes := #[9] }, type := 9, pos := "ref.go:58", after := #[{ on := 7, ground := Go.Ground.data }, { on := 4, ground := Go.Ground.chain }, { on := 4, ground := Go.Ground.guard }], guard := some (4, false) }) rfl (fun K hK => ?_) AllReadyH.nil)
                (go_simp; refine (HPa.out _ _ hE.drew).mono ?_; rintro e w4 ⟨v, rfl, rfl, hA1⟩)
                refine hK.out _ _ ⟨(atVm hA1 (by repeat (first | exact List.Mem.head _ | refine List.Mem.tail _ ?_)) (by simp [go_sem]) rfl), (atVm hA1 (by repeat (first | exact List.Mem.head _ | refine List.Mem.tail _ ?_)) (by simp [go_sem]) rfl), (atWm hA1 (by repeat (first | exact List.Mem.head _ | refine List.Mem.tail _ ?_)) Tryd.isAgg33 Tryd.sizeOf33 rfl)⟩ (fun hS => ?_)
                clear hK K
                try simp only [Act.put, sb, s0, sz]
                refine wpAnyH_ready (rs := [9]) (by kernel_rfl) (by simp) ?_
                refine (AllReadyH.cons (o := { dst := some 55, op := Go.Op.call { callee := Go.Callee.value (Go.Operand.func 36), args := #[Go.Operand.tmp 51, Go.Operand.tmp 54], argTypes := #[33, 9] }, type := 72, pos := "ref.go:58", after := #[{ on := 5, ground := Go.Ground.data }, { on := 8, ground := Go.Ground.data }, { on := 8, ground := Go.Ground.chain }, { on := 4, ground := Go.Ground.guard }], guard := some (4, false) }) rfl (fun K hK => ?_) AllReadyH.nil)
                (go_simp; refine (HKi.out _ _ (by repeat (first | exact List.suffix_refl _ | refine List.IsSuffix.trans ?_ (List.suffix_cons _ _))) hA1).mono ?_; rintro e w5 ⟨v, rfl, ka, kc, rfl, hA2⟩)
                refine hK.out _ _ ⟨(atVm hA2 (by repeat (first | exact List.Mem.head _ | refine List.Mem.tail _ ?_)) (by simp [go_sem]) rfl), (atVm hA2 (by repeat (first | exact List.Mem.head _ | refine List.Mem.tail _ ?_)) (by simp [go_sem]) rfl), (atWm hA2 (by repeat (first | exact List.Mem.head _ | refine List.Mem.tail _ ?_)) Tryd.isAgg33 Tryd.sizeOf33 rfl)⟩ (fun hS => ?_)
                clear hK K
                try simp only [Act.put, sb, s0, sz]
                refine takeW 10 ⟨some 56, .call { callee := .builtin .len, args := #[.tmp 55], argTypes := #[72] }, 3, "ref.go:58", #[⟨9, .data⟩, ⟨4, .guard⟩], some (4, false)⟩ ?_ (.inl ⟨by rfl, ?_⟩) hS ?_
                rotate_left
                · (intro w hSw; (try dsimp only at hSw); go_simp; (try with_reducible rfl))
                try simp only [Act.put, sb, s0, sz]
                refine takeW 11 ⟨some 57, .binOp .geq 3 (.tmp 56) (.const (.int .i64 6)) 3, 4, "ref.go:58", #[⟨10, .data⟩, ⟨4, .guard⟩], some (4, false)⟩ ?_ (.inl ⟨by rfl, ?_⟩) hS ?_
                rotate_left
                · (intro w hSw; (try dsimp only at hSw); go_simp; (try with_reducible rfl))
                try simp only [Act.put, sb, s0, sz]
                refine takeW 12 ⟨some 58, .pick (.tmp 50) (.const (.bool true)) (.tmp 57), 4, "ref.go:58", #[⟨4, .data⟩, ⟨11, .data⟩], none⟩ ?_ (.inl ⟨by rfl, ?_⟩) hS ?_
                rotate_left
                · (intro w hSw; (try dsimp only at hSw); go_simp; (try with_reducible rfl))
                try simp only [Act.put, sb, s0, sz]
                refine wpAnyH_done (by kernel_rfl) ?_ _
                replace hE := hA2.tail
                clear hS
                try clear hA1
                try clear hA2
                try clear hA3
                clear HE3
                go_wp2
                refine wp_region_held_drew (S := (fun w' => ((Instr.loadAt 22 (.pointer (some ⟨b2, 0, none⟩))).run Tryd.prog w' = .ok (.slice ao L.length c) w') ∧ ((Instr.loadAt 41 (.pointer (some ⟨b3, 0, none⟩))).run Tryd.prog w' = .ok (.agg [.string ⟨xp.toArray⟩, .bool false, .string ⟨xb.toArray⟩].toArray) w'))) (by kernel_rfl) ⟨(atVm hE.drew (by repeat (first | exact List.Mem.head _ | refine List.Mem.tail _ ?_)) (by simp [go_sem]) rfl), (atWm hE.drew (by repeat (first | exact List.Mem.head _ | refine List.Mem.tail _ ?_)) Tryd.isAgg41 Tryd.sizeOf41 rfl)⟩ (fun hS => ?_)
                refine takeW 0 ⟨some 60, .fieldAddr 33 (.tmp 2) 0, 0, "ref.go:61", #[], none⟩ ?_ (.inl ⟨by rfl, ?_⟩) hS ?_
                rotate_left
                · (intro w hSw; (try dsimp only at hSw); go_simp; (try with_reducible rfl))
                try simp only [Act.put, sb, s0, sz]
                refine takeW 1 ⟨some 61, .load 22 (.tmp 60), 22, "ref.go:61", #[⟨0, .data⟩], none⟩ ?_ (.inl ⟨by rfl, ?_⟩) hS ?_
                rotate_left
                · (intro w hSw; (try dsimp only at hSw); go_simp; (try with_reducible rfl))
                try simp only [Act.put, sb, s0, sz]
                refine takeW 3 ⟨some 63, .load 41 (.tmp 3), 41, "ref.go:61", #[], none⟩ ?_ (.inl ⟨by rfl, ?_⟩) hS ?_
                rotate_left
                · (intro w hSw; (try dsimp only at hSw); go_simp; (try with_reducible rfl))
                try simp only [Act.put, sb, s0, sz]
                refine wpAnyH_ready (rs := [2, 4]) (by kernel_rfl) (by simp) ?_
                refine (AllReadyH.cons (o := { dst := some 62, op := Go.Op.call { callee := Go.Callee.builtin Go.Builtin.append, args := #[Go.Operand.const (Go.Value.slice none 0 0), Go.Operand.tmp 61], argTypes := #[22, 22] }, type := 22, pos := "ref.go:61", after := #[{ on := 1, ground := Go.Ground.data }], guard := none }) rfl (fun K hK => ?_) (AllReadyH.cons (o := { dst := some 64, op := Go.Op.buildSlice 22 1 #[(0, Go.Operand.tmp 63)], type := 22, pos := "ref.go:61", after := #[{ on := 3, ground := Go.Ground.data }], guard := none }) rfl (fun K hK => ?_) AllReadyH.nil))
                focus
                  ((first | refine step_appendNil hB rfl (by rfl) (by rfl) (by rfl) Tryd.underlying22 info_en (by decide) (hk _ (hB.suf (by repeat (first | exact List.suffix_refl _ | refine List.IsSuffix.trans ?_ (List.suffix_cons _ _))))) (enC_flat_len L) (flat_one L) (by omega) (by omega) ?_ | refine step_appendNil hE.drew rfl (by rfl) (by rfl) (by rfl) Tryd.underlying22 info_en (by decide) (hk _ (hE.drew.suf (by repeat (first | exact List.suffix_refl _ | refine List.IsSuffix.trans ?_ (List.suffix_cons _ _))))) (enC_flat_len L) (flat_one L) (by omega) (by omega) ?_); intro a1 c1 w6 hA)
                  refine hK.out _ _ ⟨(atVm hA (by repeat (first | exact List.Mem.head _ | refine List.Mem.tail _ ?_)) (by simp [go_sem]) rfl), (atWm hA (by repeat (first | exact List.Mem.head _ | refine List.Mem.tail _ ?_)) Tryd.isAgg41 Tryd.sizeOf41 rfl)⟩ (fun hS => ?_)
                  clear hK K
                  try simp only [Act.put, sb, s0, sz]
                  refine wpAnyH_ready (rs := [4]) (by kernel_rfl) (by simp) ?_
                  refine (AllReadyH.cons (o := { dst := some 64, op := Go.Op.buildSlice 22 1 #[(0, Go.Operand.tmp 63)], type := 22, pos := "ref.go:61", after := #[{ on := 3, ground := Go.Ground.data }], guard := none }) rfl (fun K hK => ?_) AllReadyH.nil)
                  ((first | refine step_build1 hA rfl (by rfl) (xs := enC ⟨xp, false, xb⟩) (by rfl) Tryd.underlying22 zs_en Tryd.sizeOf41 (by decide) (by decide) rfl ?_ | refine step_build1 hE.drew rfl (by rfl) (xs := enC ⟨xp, false, xb⟩) (by rfl) Tryd.underlying22 zs_en Tryd.sizeOf41 (by decide) (by decide) rfl ?_); intro b9 w7 hB)
                  refine hK.out _ _ ⟨(atVm hB (by repeat (first | exact List.Mem.head _ | refine List.Mem.tail _ ?_)) (by simp [go_sem]) rfl), (atWm hB (by repeat (first | exact List.Mem.head _ | refine List.Mem.tail _ ?_)) Tryd.isAgg41 Tryd.sizeOf41 rfl)⟩ (fun hS => ?_)
                  clear hK K
                  try simp only [Act.put, sb, s0, sz]
                  refine wpAnyH_ready (rs := [5]) (by kernel_rfl) (by simp) ?_
                  refine (AllReadyH.cons (o := { dst := some 65, op := Go.Op.call { callee := Go.Callee.builtin Go.Builtin.append, args := #[Go.Operand.tmp 62, Go.Operand.tmp 64], argTypes := #[22, 22] }, type := 22, pos := "ref.go:61", after := #[{ on := 2, ground := Go.Ground.data }, { on := 4, ground := Go.Ground.data }, { on := 2, ground := Go.Ground.chain }], guard := none }) rfl (fun K hK => ?_) AllReadyH.nil)
                  ((first | refine step_appendG hB 1 rfl rfl (by rfl) (by rfl) (by rfl) Tryd.underlying22 info_en (by decide) (m := 1) (news := enC ⟨xp, false, xb⟩) (reads_pt hB 0 rfl (off := 0) (fun j u hu => by rw [Nat.zero_add, List.getElem?_toArray]; exact hu)) rfl (enC_one _) (by omega) (by omega) ?_ | refine step_appendG hA 0 rfl rfl (by rfl) (by rfl) (by rfl) Tryd.underlying22 info_en (by decide) (m := 1) (news := enC ⟨xp, false, xb⟩) (reads_pt hA 1 rfl (off := 0) (fun j u hu => by rw [Nat.zero_add, List.getElem?_toArray]; exact hu)) rfl (enC_one _) (by omega) (by omega) ?_); intro a2 c2 w8 hC; simp only [List.set_cons_zero, List.set_cons_succ] at hC)
                  refine hK.out _ _ ⟨(atVm hC (by repeat (first | exact List.Mem.head _ | refine List.Mem.tail _ ?_)) (by simp [go_sem]) rfl), (atWm hC (by repeat (first | exact List.Mem.head _ | refine List.Mem.tail _ ?_)) Tryd.isAgg41 Tryd.sizeOf41 rfl)⟩ (fun hS => ?_)
                  clear hK K
                  try simp only [Act.put, sb, s0, sz]
                  refine takeW 6 ⟨some 66, .build 33 #[(0, .tmp 65)], 33, "ref.go:61", #[⟨5, .data⟩], none⟩ ?_ (.inl ⟨by rfl, ?_⟩) hS ?_
                  rotate_left
                  · (intro w hSw; (try dsimp only at hSw); go_simp; (try with_reducible rfl))
                  try simp only [Act.put, sb, s0, sz]
                  refine wpAnyH_ready (rs := [7]) (by kernel_rfl) (by simp) ?_
                  refine (AllReadyH.cons (o := { dst := none, op := Go.Op.store 33 (Go.Operand.tmp 4) (Go.Operand.tmp 66), type := 0, pos := "ref.go:61", after := #[{ on := 6, ground := Go.Ground.data }, { on := 5, ground := Go.Ground.chain }, { on := 0, ground := Go.Ground.phase }, { on := 1, ground := Go.Ground.phase }, { on := 2, ground := Go.Ground.phase }, { on := 3, ground := Go.Ground.phase }, { on := 4, ground := Go.Ground.phase }, { on := 5, ground := Go.Ground.phase }, { on := 6, ground := Go.Ground.phase }], guard := none }) rfl (fun K hK => ?_) AllReadyH.nil)
                  (refine step_storeW hC 2 rfl (by rfl) (by rfl) (by rfl) (xs := [.slice a2 (L.length + 1) c2]) (by rfl) Tryd.sizeOf33 rfl (by simp [Value.oneCell']) rfl ?_; intro w9 hD; simp only [List.set_cons_zero, List.set_cons_succ] at hD)
                  refine hK.out _ _ ⟨(atVm hD (by repeat (first | exact List.Mem.head _ | refine List.Mem.tail _ ?_)) (by simp [go_sem]) rfl), (atWm hD (by repeat (first | exact List.Mem.head _ | refine List.Mem.tail _ ?_)) Tryd.isAgg41 Tryd.sizeOf41 rfl)⟩ (fun hS => ?_)
                  clear hK K
                  try simp only [Act.put, sb, s0, sz]
                  refine takeW 8 ⟨some 5, .assign (.const (.int .i64 0)), 29, "ref.go:61", #[⟨7, .chain⟩, ⟨0, .phase⟩, ⟨1, .phase⟩, ⟨2, .phase⟩, ⟨3, .phase⟩, ⟨4, .phase⟩, ⟨5, .phase⟩, ⟨6, .phase⟩, ⟨7, .phase⟩], none⟩ ?_ (.inl ⟨by rfl, ?_⟩) hS ?_
                  rotate_left
                  · (intro w hSw; (try dsimp only at hSw); go_simp; (try with_reducible rfl))
                  try simp only [Act.put, sb, s0, sz]
                  refine wpAnyH_done (by kernel_rfl) ?_ _
                rotate_right
                focus
                  ((first | refine step_build1 hA rfl (by rfl) (xs := enC ⟨xp, false, xb⟩) (by rfl) Tryd.underlying22 zs_en Tryd.sizeOf41 (by decide) (by decide) rfl ?_ | refine step_build1 hE.drew rfl (by rfl) (xs := enC ⟨xp, false, xb⟩) (by rfl) Tryd.underlying22 zs_en Tryd.sizeOf41 (by decide) (by decide) rfl ?_); intro b9 w7 hB)
                  refine hK.out _ _ ⟨(atVm hB (by repeat (first | exact List.Mem.head _ | refine List.Mem.tail _ ?_)) (by simp [go_sem]) rfl), (atWm hB (by repeat (first | exact List.Mem.head _ | refine List.Mem.tail _ ?_)) Tryd.isAgg41 Tryd.sizeOf41 rfl)⟩ (fun hS => ?_)
                  clear hK K
                  try simp only [Act.put, sb, s0, sz]
                  refine wpAnyH_ready (rs := [2]) (by kernel_rfl) (by simp) ?_
                  refine (AllReadyH.cons (o := { dst := some 62, op := Go.Op.call { callee := Go.Callee.builtin Go.Builtin.append, args := #[Go.Operand.const (Go.Value.slice none 0 0), Go.Operand.tmp 61], argTypes := #[22, 22] }, type := 22, pos := "ref.go:61", after := #[{ on := 1, ground := Go.Ground.data }], guard := none }) rfl (fun K hK => ?_) AllReadyH.nil)
                  ((first | refine step_appendNil hB rfl (by rfl) (by rfl) (by rfl) Tryd.underlying22 info_en (by decide) (hk _ (hB.suf (by repeat (first | exact List.suffix_refl _ | refine List.IsSuffix.trans ?_ (List.suffix_cons _ _))))) (enC_flat_len L) (flat_one L) (by omega) (by omega) ?_ | refine step_appendNil hE.drew rfl (by rfl) (by rfl) (by rfl) Tryd.underlying22 info_en (by decide) (hk _ (hE.drew.suf (by repeat (first | exact List.suffix_refl _ | refine List.IsSuffix.trans ?_ (List.suffix_cons _ _))))) (enC_flat_len L) (flat_one L) (by omega) (by omega) ?_); intro a1 c1 w6 hA)
                  refine hK.out _ _ ⟨(atVm hA (by repeat (first | exact List.Mem.head _ | refine List.Mem.tail _ ?_)) (by simp [go_sem]) rfl), (atWm hA (by repeat (first | exact List.Mem.head _ | refine List.Mem.tail _ ?_)) Tryd.isAgg41 Tryd.sizeOf41 rfl)⟩ (fun hS => ?_)
                  clear hK K
                  try simp only [Act.put, sb, s0, sz]
                  refine wpAnyH_ready (rs := [5]) (by kernel_rfl) (by simp) ?_
                  refine (AllReadyH.cons (o := { dst := some 65, op := Go.Op.call { callee := Go.Callee.builtin Go.Builtin.append, args := #[Go.Operand.tmp 62, Go.Operand.tmp 64], argTypes := #[22, 22] }, type := 22, pos := "ref.go:61", after := #[{ on := 2, ground := Go.Ground.data }, { on := 4, ground := Go.Ground.data }, { on := 2, ground := Go.Ground.chain }], guard := none }) rfl (fun K hK => ?_) AllReadyH.nil)
                  ((first | refine step_appendG hB 1 rfl rfl (by rfl) (by rfl) (by rfl) Tryd.underlying22 info_en (by decide) (m := 1) (news := enC ⟨xp, false, xb⟩) (reads_pt hB 0 rfl (off := 0) (fun j u hu => by rw [Nat.zero_add, List.getElem?_toArray]; exact hu)) rfl (enC_one _) (by omega) (by omega) ?_ | refine step_appendG hA 0 rfl rfl (by rfl) (by rfl) (by rfl) Tryd.underlying22 info_en (by decide) (m := 1) (news := enC ⟨xp, false, xb⟩) (reads_pt hA 1 rfl (off := 0) (fun j u hu => by rw [Nat.zero_add, List.getElem?_toArray]; exact hu)) rfl (enC_one _) (by omega) (by omega) ?_); intro a2 c2 w8 hC; simp only [List.set_cons_zero, List.set_cons_succ] at hC)
                  refine hK.out _ _ ⟨(atVm hC (by repeat (first | exact List.Mem.head _ | refine List.Mem.tail _ ?_)) (by simp [go_sem]) rfl), (atWm hC (by repeat (first | exact List.Mem.head _ | refine List.Mem.tail _ ?_)) Tryd.isAgg41 Tryd.sizeOf41 rfl)⟩ (fun hS => ?_)
                  clear hK K
                  try simp only [Act.put, sb, s0, sz]
                  refine takeW 6 ⟨some 66, .build 33 #[(0, .tmp 65)], 33, "ref.go:61", #[⟨5, .data⟩], none⟩ ?_ (.inl ⟨by rfl, ?_⟩) hS ?_
                  rotate_left
                  · (intro w hSw; (try dsimp only at hSw); go_simp; (try with_reducible rfl))
                  try simp only [Act.put, sb, s0, sz]
                  refine wpAnyH_ready (rs := [7]) (by kernel_rfl) (by simp) ?_
                  refine (AllReadyH.cons (o := { dst := none, op := Go.Op.store 33 (Go.Operand.tmp 4) (Go.Operand.tmp 66), type := 0, pos := "ref.go:61", after := #[{ on := 6, ground := Go.Ground.data }, { on := 5, ground := Go.Ground.chain }, { on := 0, ground := Go.Ground.phase }, { on := 1, ground := Go.Ground.phase }, { on := 2, ground := Go.Ground.phase }, { on := 3, ground := Go.Ground.phase }, { on := 4, ground := Go.Ground.phase }, { on := 5, ground := Go.Ground.phase }, { on := 6, ground := Go.Ground.phase }], guard := none }) rfl (fun K hK => ?_) AllReadyH.nil)
                  (refine step_storeW hC 2 rfl (by rfl) (by rfl) (by rfl) (xs := [.slice a2 (L.length + 1) c2]) (by rfl) Tryd.sizeOf33 rfl (by simp [Value.oneCell']) rfl ?_; intro w9 hD; simp only [List.set_cons_zero, List.set_cons_succ] at hD)
                  refine hK.out _ _ ⟨(atVm hD (by repeat (first | exact List.Mem.head _ | refine List.Mem.tail _ ?_)) (by simp [go_sem]) rfl), (atWm hD (by repeat (first | exact List.Mem.head _ | refine List.Mem.tail _ ?_)) Tryd.isAgg41 Tryd.sizeOf41 rfl)⟩ (fun hS => ?_)
                  clear hK K
                  try simp only [Act.put, sb, s0, sz]
                  refine takeW 8 ⟨some 5, .assign (.const (.int .i64 0)), 29, "ref.go:61", #[⟨7, .chain⟩, ⟨0, .phase⟩, ⟨1, .phase⟩, ⟨2, .phase⟩, ⟨3, .phase⟩, ⟨4, .phase⟩, ⟨5, .phase⟩, ⟨6, .phase⟩, ⟨7, .phase⟩], none⟩ ?_ (.inl ⟨by rfl, ?_⟩) hS ?_
                  rotate_left
                  · (intro w hSw; (try dsimp only at hSw); go_simp; (try with_reducible rfl))
                  try simp only [Act.put, sb, s0, sz]
                  refine wpAnyH_done (by kernel_rfl) ?_ _
                all_goals
                  clear hC hB hA hE hS
                  go_wp2
                  refine bodyPost_ret (results_cell2 rfl hD 2 rfl rfl Tryd.isAgg33 Tryd.sizeOf33 rfl rfl) rfl ?_
                  exact ⟨_, rfl, AddPost.good HB.out (m := [_, _, _, _, _]) (fun lk w h => by first | exact reads_row h 0 rfl | exact reads_row h 1 rfl) hD⟩
end Go.Proofs.YtjmllpgmbaoebaaDoor
