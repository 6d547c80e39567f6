/-
  The law of nodes' pages: the walk of its function. Printed by gen_nda.py.
-/
import Derived.Test.YtohdljcpaogokaaNd9
namespace Go.Proofs.Ytohdljcpaogokaa
open Go.RowKit Go.SL

theorem rises_rising {ks : List (List UInt8)} (h : rises ks ks.length = true) : Rising ks := by
  intro i hi
  have := List.all_eq_true.1 h (i + 1) (List.mem_range.2 hi)
  rw [riseOk_at hi] at this
  exact this
theorem may_rising {kw vw : Int} {n : Nd} (h : mayN kw vw n = true) : Rising n.keys := by
  simp only [mayN, mayB, Bool.and_eq_true] at h
  exact rises_rising h.2.1
def ltK (key : List UInt8) (k : List UInt8) : Bool := Op.bytesLess k key
def leK (key : List UInt8) (k : List UInt8) : Bool := Op.bytesLess k key || k == key
def LmRel (keys : List (List UInt8)) (key : List UInt8) (l : List HProp) (s m i : Value) (wr : World) : Prop := ∃ k : Nat, k ≤ keys.length ∧ i = .int .i64 k ∧ s = .int .i64 ((keys.take k).countP (ltK key) : Nat) ∧ m = .int .i64 ((keys.take k).countP (leK key) : Nat) ∧ Ent l wr
theorem countP_snoc {α : Type} (p : α → Bool) {xs : List α} {k : Nat} (h : k < xs.length) : (xs.take (k + 1)).countP p = (xs.take k).countP p + if p xs[k] then 1 else 0 := by
  rw [List.take_succ_eq_append_getElem h, List.countP_append]
  simp [List.countP_cons]


set_option maxRecDepth 100000 in
set_option maxHeartbeats 16000000 in
attribute [-go_sem] Instr.loadAt in
theorem NodePuts_any {kw vw : Int} {leaf : Bool} {keys vals : List (List UInt8)} {kids : List Int} {ka va ia : Option Addr} {kc vc ic : Nat} (key : List UInt8) {l : List HProp} {w : World} (hE : Ent l w) (hk : Knows l (reads (.slice ka keys.length kc) keys.length (keys.map strv))) (hv : Knows l (reads (.slice va vals.length vc) vals.length (vals.map strv))) (hi : Knows l (reads (.slice ia kids.length ic) kids.length (kids.map intv))) :
    Calls Try.prog 7 #[.agg #[.int .i64 kw, .int .i64 vw], .agg #[.bool leaf, .slice ka keys.length kc, .slice va vals.length vc, .slice ia kids.length ic], .string ⟨key.toArray⟩] w (Ret fun v w' => v = .bool true ∧ Ent l w') := by
  go_enter Try.func7, Try.ntmps7
  have hG := fun {l : List HProp} {w : World} (h : Ent l w) a b c => great_node' (leaf := leaf) (keys := keys) (vals := vals) (kids := kids) (ka := ka) (va := va) (ia := ia) (kc := kc) (vc := vc) (ic := ic) h a b c
  go_wp2_with (first
    | go_skip
    | ((with_reducible (show Go.wpList _ _ _ (Go.Oper.mk _ (.box _ (.tmp 0)) _ _ _ _ :: _) _ _)); refine wpl_box hE rfl rfl rfl ?_; clear hE; intro b3 w hE; simp only [Act.eval, Act.put, List.setIfInBounds_toArray, List.set_cons_zero, List.set_cons_succ, getD_lit, List.getD_cons_succ, List.getD_cons_zero, Value.cells] at hE)
    | ((with_reducible (show Go.wpList _ _ _ (Go.Oper.mk _ (.box _ (.tmp 1)) _ _ _ _ :: _) _ _)); refine wpl_box hE rfl rfl rfl ?_; clear hE; intro b4 w hE; simp only [Act.eval, Act.put, List.setIfInBounds_toArray, List.set_cons_zero, List.set_cons_succ, getD_lit, List.getD_cons_succ, List.getD_cons_zero, Value.cells] at hE)
    | ((with_reducible (show Go.wpList _ _ _ (Go.Oper.mk _ (.load 66 _) _ _ _ _ :: _) _ _)); refine wpl_loadW hE 0 rfl rfl rfl rfl Try.isAgg66 Try.sizeOf66 (xs := [.bool leaf, .slice ka keys.length kc, .slice va vals.length vc, .slice ia kids.length ic]) rfl ?_)
    | (go_at_call 25; refine (hG hE (hk.suf (by repeat (first | exact List.suffix_refl _ | refine List.IsSuffix.trans ?_ (List.suffix_cons _ _)))) (hv.suf (by repeat (first | exact List.suffix_refl _ | refine List.IsSuffix.trans ?_ (List.suffix_cons _ _)))) (hi.suf (by repeat (first | exact List.suffix_refl _ | refine List.IsSuffix.trans ?_ (List.suffix_cons _ _))))).mono ?_; clear hE; rintro e w2 ⟨v, rfl, ⟨g, rfl, hgr⟩, hE⟩; have Hgr := SL.hid hgr; clear hgr; cases g)
    | (go_at_call 26; refine (wakes09_any hE).mono ?_; clear hE; rintro e w3 ⟨v, rfl, rfl, hE9⟩)
    | ((with_reducible (show Go.wpList _ _ _ (Go.Oper.mk _ (.load 3 _) _ _ _ _ :: _) _ _)); refine wpl_load1 hE 1 rfl rfl rfl rfl (by simp [go_sem]) rfl ?_)
    | ((with_reducible (show Go.wpList _ _ _ (Go.Oper.mk _ (.alloc 68) _ _ _ _ :: _) _ _)); refine wpl_alloc hE rfl rfl (by simp [go_sem]; rfl) ?_; clear hE; intro b7 w hE1; simp only [Act.eval, Act.put, List.setIfInBounds_toArray, List.set_cons_zero, List.set_cons_succ, getD_lit, List.getD_cons_succ, List.getD_cons_zero, Value.cells] at hE1)
    | ((with_reducible (show Go.wpList _ _ _ (Go.Oper.mk _ (.store _ _ _) _ _ _ _ :: _) _ _)); refine wpl_storeW hE1 0 rfl rfl rfl (xs := [.int .i64 kw, .int .i64 vw]) rfl rfl Try.sizeOf68 rfl (by simp [Value.oneCell']) rfl ?_; clear hE1; intro w hE2; simp only [List.set_cons_zero, List.set_cons_succ] at hE2))
  all_goals (try (go_ret; exact ⟨_, rfl, rfl, hE9.tail.tail⟩))
  obtain ⟨n1, n2, n3, n4, n5⟩ := Hgr.out (by first | exact rfl | trivial)
  simp only at n1 n2 n3
  clear n4 n5 Hgr hG
  have bk : keys.length ≤ 100000 := by omega
  have bv : vals.length ≤ 100000 := by omega
  have bi : kids.length ≤ 100000 := by omega
  have hm1 := fun {l : List HProp} {w : World} (h : Ent l w) => May_shape (kw := kw) (vw := vw) h
  have hm2 := fun {l : List HProp} {w : World} (h : Ent l w) => Right_shape (kw := kw) (vw := vw) h
  have hc1 := fun {l : List HProp} {w : World} (h : Ent l w) => Cap_shape (kw := kw) (vw := vw) h
  have hc2 := fun {l : List HProp} {w : World} (h : Ent l w) => rCap_shape (kw := kw) (vw := vw) h
  have hf1 := fun {l : List HProp} {w : World} (h : Ent l w) => Fan_shape (kw := kw) (vw := vw) h
  have hf2 := fun {l : List HProp} {w : World} (h : Ent l w) => rFan_shape (kw := kw) (vw := vw) h
  generalize rightN kw vw = right at *
  generalize capN kw vw = cap at *
  generalize fanN kw vw = fan at *
  refine wp_region_held_drew (S := (fun w' => ((Instr.loadAt 62 (.pointer (some ⟨b3, 0, none⟩))).run Try.prog w' = .ok (.agg [.int .i64 kw, .int .i64 vw].toArray) w') ∧ ((Instr.loadAt 68 (.pointer (some ⟨b7, 0, none⟩))).run Try.prog w' = .ok (.agg [.int .i64 kw, .int .i64 vw].toArray) w'))) (by kernel_rfl) ⟨(atWm hE2.drew (by repeat (first | exact List.Mem.head _ | refine List.Mem.tail _ ?_)) Try.isAgg62 Try.sizeOf62 rfl), (atWm hE2.drew (by repeat (first | exact List.Mem.head _ | refine List.Mem.tail _ ?_)) Try.isAgg68 Try.sizeOf68 rfl)⟩ (fun hS => ?_)
  refine takeW 0 ⟨some 23, .load 68 (.tmp 7), 68, "law.go:74", #[], none⟩ ?_ (.inl ⟨by rfl, ?_⟩) hS ?_
  rotate_left
  · (intro w hSw; (try dsimp only at hSw); go_simp; (try with_reducible rfl))
  try simp only [Act.put, sb, s0, sz]
  refine takeW 2 ⟨some 25, .load 62 (.tmp 3), 62, "law.go:74", #[], none⟩ ?_ (.inl ⟨by rfl, ?_⟩) hS ?_
  rotate_left
  · (intro w hSw; (try dsimp only at hSw); go_simp; (try with_reducible rfl))
  try simp only [Act.put, sb, s0, sz]
  refine wpAnyH_ready (rs := [1]) (by kernel_rfl) (by simp) ?_
  refine (AllReadyH.cons (o := { dst := some 24, op := Go.Op.call { callee := Go.Callee.value (Go.Operand.func 27), args := #[Go.Operand.tmp 23], argTypes := #[68] }, type := 4, pos := "law.go:74", after := #[{ on := 0, ground := Go.Ground.data }], guard := none }) rfl (fun K hK => ?_) AllReadyH.nil)
  (go_simp; refine (hm1 hE2.drew).mono ?_; rintro e wa ⟨v, rfl, rfl, hEa⟩)
  refine hK.out _ _ ⟨(atWm hEa (by repeat (first | exact List.Mem.head _ | refine List.Mem.tail _ ?_)) Try.isAgg62 Try.sizeOf62 rfl), (atWm hEa (by repeat (first | exact List.Mem.head _ | refine List.Mem.tail _ ?_)) Try.isAgg68 Try.sizeOf68 rfl)⟩ (fun hS => ?_)
  clear hK K
  try simp only [Act.put, sb, s0, sz]
  refine wpAnyH_ready (rs := [3]) (by kernel_rfl) (by simp) ?_
  refine (AllReadyH.cons (o := { dst := some 26, op := Go.Op.call { callee := Go.Callee.value (Go.Operand.func 28), args := #[Go.Operand.tmp 25], argTypes := #[62] }, type := 4, pos := "law.go:74", after := #[{ on := 2, ground := Go.Ground.data }, { on := 1, ground := Go.Ground.chain }], guard := none }) rfl (fun K hK => ?_) AllReadyH.nil)
  (go_simp; refine (hm2 hEa).mono ?_; rintro e wb ⟨v, rfl, rfl, hEb⟩)
  refine hK.out _ _ ⟨(atWm hEb (by repeat (first | exact List.Mem.head _ | refine List.Mem.tail _ ?_)) Try.isAgg62 Try.sizeOf62 rfl), (atWm hEb (by repeat (first | exact List.Mem.head _ | refine List.Mem.tail _ ?_)) Try.isAgg68 Try.sizeOf68 rfl)⟩ (fun hS => ?_)
  clear hK K
  try simp only [Act.put, sb, s0, sz]
  refine takeW 4 ⟨some 27, .binOp .neq 4 (.tmp 24) (.tmp 26) 4, 4, "law.go:74", #[⟨1, .data⟩, ⟨3, .data⟩], none⟩ ?_ (.inl ⟨by rfl, ?_⟩) hS ?_
  rotate_left
  · (intro w hSw; (try dsimp only at hSw); go_simp; (try with_reducible rfl))
  try simp only [Act.put, sb, s0, sz]
  refine takeW 5 ⟨some 28, .move (.tmp 27), 4, "law.go:74", #[⟨4, .data⟩, ⟨3, .chain⟩], none⟩ ?_ (.inl ⟨by rfl, ?_⟩) hS ?_
  rotate_left
  · (intro w hSw; (try dsimp only at hSw); go_simp; (try with_reducible rfl))
  try simp only [Act.put, sb, s0, sz]
  refine takeW 6 ⟨some 29, .load 68 (.tmp 7), 68, "law.go:74", #[⟨5, .guard⟩], some (5, false)⟩ ?_ (.inl ⟨by rfl, ?_⟩) hS ?_
  rotate_left
  · (intro w hSw; (try dsimp only at hSw); go_simp; (try with_reducible rfl))
  try simp only [Act.put, sb, s0, sz]
  refine takeW 8 ⟨some 31, .load 62 (.tmp 3), 62, "law.go:74", #[⟨5, .guard⟩], some (5, false)⟩ ?_ (.inl ⟨by rfl, ?_⟩) hS ?_
  rotate_left
  · (intro w hSw; (try dsimp only at hSw); go_simp; (try with_reducible rfl))
  try simp only [Act.put, sb, s0, sz]
  refine wpAnyH_ready (rs := [7]) (by kernel_rfl) (by simp) ?_
  refine (AllReadyH.cons (o := { dst := some 30, op := Go.Op.call { callee := Go.Callee.value (Go.Operand.func 29), args := #[Go.Operand.tmp 29], argTypes := #[68] }, type := 3, pos := "law.go:74", after := #[{ on := 6, ground := Go.Ground.data }, { on := 5, ground := Go.Ground.chain }, { on := 5, ground := Go.Ground.guard }], guard := some (5, false) }) rfl (fun K hK => ?_) AllReadyH.nil)
  (go_simp; refine (hc1 hEb).mono ?_; rintro e wc ⟨v, rfl, rfl, hEc⟩)
  refine hK.out _ _ ⟨(atWm hEc (by repeat (first | exact List.Mem.head _ | refine List.Mem.tail _ ?_)) Try.isAgg62 Try.sizeOf62 rfl), (atWm hEc (by repeat (first | exact List.Mem.head _ | refine List.Mem.tail _ ?_)) Try.isAgg68 Try.sizeOf68 rfl)⟩ (fun hS => ?_)
  clear hK K
  try simp only [Act.put, sb, s0, sz]
  refine wpAnyH_ready (rs := [9]) (by kernel_rfl) (by simp) ?_
  refine (AllReadyH.cons (o := { dst := some 32, op := Go.Op.call { callee := Go.Callee.value (Go.Operand.func 30), args := #[Go.Operand.tmp 31], argTypes := #[62] }, type := 3, pos := "law.go:74", after := #[{ on := 8, ground := Go.Ground.data }, { on := 7, ground := Go.Ground.chain }, { on := 5, ground := Go.Ground.guard }], guard := some (5, false) }) rfl (fun K hK => ?_) AllReadyH.nil)
  (go_simp; refine (hc2 hEc).mono ?_; rintro e wd ⟨v, rfl, rfl, hEd⟩)
  refine hK.out _ _ ⟨(atWm hEd (by repeat (first | exact List.Mem.head _ | refine List.Mem.tail _ ?_)) Try.isAgg62 Try.sizeOf62 rfl), (atWm hEd (by repeat (first | exact List.Mem.head _ | refine List.Mem.tail _ ?_)) Try.isAgg68 Try.sizeOf68 rfl)⟩ (fun hS => ?_)
  clear hK K
  try simp only [Act.put, sb, s0, sz]
  refine takeW 10 ⟨some 33, .binOp .neq 3 (.tmp 30) (.tmp 32) 3, 4, "law.go:74", #[⟨7, .data⟩, ⟨9, .data⟩, ⟨5, .guard⟩], some (5, false)⟩ ?_ (.inl ⟨by rfl, ?_⟩) hS ?_
  rotate_left
  · (intro w hSw; (try dsimp only at hSw); go_simp; (try with_reducible rfl))
  try simp only [Act.put, sb, s0, sz]
  refine takeW 11 ⟨some 34, .pick (.tmp 28) (.const (.bool true)) (.tmp 33), 4, "law.go:74", #[⟨5, .data⟩, ⟨10, .data⟩], none⟩ ?_ (.inl ⟨by rfl, ?_⟩) hS ?_
  rotate_left
  · (intro w hSw; (try dsimp only at hSw); go_simp; (try with_reducible rfl))
  try simp only [Act.put, sb, s0, sz]
  refine takeW 12 ⟨some 35, .move (.tmp 34), 4, "law.go:74", #[⟨11, .data⟩, ⟨9, .chain⟩], none⟩ ?_ (.inl ⟨by rfl, ?_⟩) hS ?_
  rotate_left
  · (intro w hSw; (try dsimp only at hSw); go_simp; (try with_reducible rfl))
  try simp only [Act.put, sb, s0, sz]
  refine takeW 13 ⟨some 36, .load 68 (.tmp 7), 68, "law.go:74", #[⟨12, .guard⟩], some (12, false)⟩ ?_ (.inl ⟨by rfl, ?_⟩) hS ?_
  rotate_left
  · (intro w hSw; (try dsimp only at hSw); go_simp; (try with_reducible rfl))
  try simp only [Act.put, sb, s0, sz]
  refine takeW 15 ⟨some 38, .load 62 (.tmp 3), 62, "law.go:74", #[⟨12, .guard⟩], some (12, false)⟩ ?_ (.inl ⟨by rfl, ?_⟩) hS ?_
  rotate_left
  · (intro w hSw; (try dsimp only at hSw); go_simp; (try with_reducible rfl))
  try simp only [Act.put, sb, s0, sz]
  refine wpAnyH_ready (rs := [14]) (by kernel_rfl) (by simp) ?_
  refine (AllReadyH.cons (o := { dst := some 37, op := Go.Op.call { callee := Go.Callee.value (Go.Operand.func 31), args := #[Go.Operand.tmp 36], argTypes := #[68] }, type := 3, pos := "law.go:74", after := #[{ on := 13, ground := Go.Ground.data }, { on := 12, ground := Go.Ground.chain }, { on := 12, ground := Go.Ground.guard }], guard := some (12, false) }) rfl (fun K hK => ?_) AllReadyH.nil)
  (go_simp; refine (hf1 hEd).mono ?_; rintro e we ⟨v, rfl, rfl, hEe⟩)
  refine hK.out _ _ ⟨(atWm hEe (by repeat (first | exact List.Mem.head _ | refine List.Mem.tail _ ?_)) Try.isAgg62 Try.sizeOf62 rfl), (atWm hEe (by repeat (first | exact List.Mem.head _ | refine List.Mem.tail _ ?_)) Try.isAgg68 Try.sizeOf68 rfl)⟩ (fun hS => ?_)
  clear hK K
  try simp only [Act.put, sb, s0, sz]
  refine wpAnyH_ready (rs := [16]) (by kernel_rfl) (by simp) ?_
  refine (AllReadyH.cons (o := { dst := some 39, op := Go.Op.call { callee := Go.Callee.value (Go.Operand.func 32), args := #[Go.Operand.tmp 38], argTypes := #[62] }, type := 3, pos := "law.go:74", after := #[{ on := 15, ground := Go.Ground.data }, { on := 14, ground := Go.Ground.chain }, { on := 12, ground := Go.Ground.guard }], guard := some (12, false) }) rfl (fun K hK => ?_) AllReadyH.nil)
  (go_simp; refine (hf2 hEe).mono ?_; rintro e wf ⟨v, rfl, rfl, hEf⟩)
  refine hK.out _ _ ⟨(atWm hEf (by repeat (first | exact List.Mem.head _ | refine List.Mem.tail _ ?_)) Try.isAgg62 Try.sizeOf62 rfl), (atWm hEf (by repeat (first | exact List.Mem.head _ | refine List.Mem.tail _ ?_)) Try.isAgg68 Try.sizeOf68 rfl)⟩ (fun hS => ?_)
  clear hK K
  try simp only [Act.put, sb, s0, sz]
  refine takeW 17 ⟨some 40, .binOp .neq 3 (.tmp 37) (.tmp 39) 3, 4, "law.go:74", #[⟨14, .data⟩, ⟨16, .data⟩, ⟨12, .guard⟩], some (12, false)⟩ ?_ (.inl ⟨by rfl, ?_⟩) hS ?_
  rotate_left
  · (intro w hSw; (try dsimp only at hSw); go_simp; (try with_reducible rfl))
  try simp only [Act.put, sb, s0, sz]
  refine takeW 18 ⟨some 41, .pick (.tmp 35) (.const (.bool true)) (.tmp 40), 4, "law.go:74", #[⟨12, .data⟩, ⟨17, .data⟩], none⟩ ?_ (.inl ⟨by rfl, ?_⟩) hS ?_
  rotate_left
  · (intro w hSw; (try dsimp only at hSw); go_simp; (try with_reducible rfl))
  try simp only [Act.put, sb, s0, sz]
  refine wpAnyH_done (by kernel_rfl) ?_ _
  clear hm1 hm2 hc1 hc2 hf1 hf2 hE2 hEa hEb hEc hEd hEe
  have hOf := fun {l : List HProp} {w : World} (h : Ent l w) a b c => Of_node (leaf := leaf) bk bv bi (ka := ka) (va := va) (ia := ia) (kc := kc) (vc := vc) (ic := ic) h a b c
  have hPut := fun {l : List HProp} {w : World} {k2 v2 i2 : Option Addr} {kd vd id : Nat} (h : Ent l w) a b c => Put_node (kw := kw) (vw := vw) (leaf := leaf) bk bv bi (ka := k2) (va := v2) (ia := i2) (kc := kd) (vc := vd) (ic := id) h a b c
  have hMay := fun {l : List HProp} {w : World} (h : Ent l w) a b c => rMay_any (kw := kw) (vw := vw) (leaf := leaf) bk bv bi (ka := ka) (va := va) (ia := ia) (kc := kc) (vc := vc) (ic := ic) h a b c
  have hrP := fun (hm : mayN kw vw ⟨leaf, keys, vals, kids⟩ = true) {l : List HProp} {w : World} (h : Ent l w) a b c => rPut_any (kw := kw) (vw := vw) (leaf := leaf) bk bv bi (ka := ka) (va := va) (ia := ia) (kc := kc) (vc := vc) (ic := ic) h a b c hm
  have Hrise := SL.hid (fun (hm : mayN kw vw ⟨leaf, keys, vals, kids⟩ = true) => may_rising hm)
  have Hpu := SL.hid (show putU kw vw ⟨leaf, keys, vals, kids⟩ = if mayN kw vw ⟨leaf, keys, vals, kids⟩ then pageU ⟨leaf, keys, vals, kids⟩ else [] from rfl)
  have Hpe := SL.hid (show putE kw vw ⟨leaf, keys, vals, kids⟩ = if mayN kw vw ⟨leaf, keys, vals, kids⟩ then 0 else 2 from rfl)
  generalize putU kw vw ⟨leaf, keys, vals, kids⟩ = pu at *
  generalize putE kw vw ⟨leaf, keys, vals, kids⟩ = pe at *
  generalize pageU ⟨leaf, keys, vals, kids⟩ = pg at *
  generalize mayN kw vw ⟨leaf, keys, vals, kids⟩ = may at *
  go_wp2
  refine wp_region_held_drew (S := (fun w' => ((Instr.loadAt 66 (.pointer (some ⟨b4, 0, none⟩))).run Try.prog w' = .ok (.agg [.bool leaf, .slice ka keys.length kc, .slice va vals.length vc, .slice ia kids.length ic].toArray) w') ∧ ((Instr.loadAt 68 (.pointer (some ⟨b7, 0, none⟩))).run Try.prog w' = .ok (.agg [.int .i64 kw, .int .i64 vw].toArray) w'))) (by kernel_rfl) ⟨(atWm hEf.drew (by repeat (first | exact List.Mem.head _ | refine List.Mem.tail _ ?_)) Try.isAgg66 Try.sizeOf66 rfl), (atWm hEf.drew (by repeat (first | exact List.Mem.head _ | refine List.Mem.tail _ ?_)) Try.isAgg68 Try.sizeOf68 rfl)⟩ (fun hS => ?_)
  refine takeW 0 ⟨some 43, .load 68 (.tmp 7), 68, "law.go:77", #[], none⟩ ?_ (.inl ⟨by rfl, ?_⟩) hS ?_
  rotate_left
  · (intro w hSw; (try dsimp only at hSw); go_simp; (try with_reducible rfl))
  try simp only [Act.put, sb, s0, sz]
  refine takeW 1 ⟨some 44, .load 66 (.tmp 4), 66, "law.go:77", #[], none⟩ ?_ (.inl ⟨by rfl, ?_⟩) hS ?_
  rotate_left
  · (intro w hSw; (try dsimp only at hSw); go_simp; (try with_reducible rfl))
  try simp only [Act.put, sb, s0, sz]
  refine wpAnyH_ready (rs := [2]) (by kernel_rfl) (by simp) ?_
  refine (AllReadyH.cons (o := { dst := some 45, op := Go.Op.call { callee := Go.Callee.value (Go.Operand.func 34), args := #[Go.Operand.tmp 44], argTypes := #[66] }, type := 70, pos := "law.go:77", after := #[{ on := 1, ground := Go.Ground.data }], guard := none }) rfl (fun K hK => ?_) AllReadyH.nil)
  (go_simp; refine (hOf hEf.drew (hk.suf (by repeat (first | exact List.suffix_refl _ | refine List.IsSuffix.trans ?_ (List.suffix_cons _ _)))) (hv.suf (by repeat (first | exact List.suffix_refl _ | refine List.IsSuffix.trans ?_ (List.suffix_cons _ _)))) (hi.suf (by repeat (first | exact List.suffix_refl _ | refine List.IsSuffix.trans ?_ (List.suffix_cons _ _))))).mono ?_; rintro e wg ⟨v, rfl, k2, kd, v2, vd, i2, id, rfl, hEg⟩)
  refine hK.out _ _ ⟨(atWm hEg (by repeat (first | exact List.Mem.head _ | refine List.Mem.tail _ ?_)) Try.isAgg66 Try.sizeOf66 rfl), (atWm hEg (by repeat (first | exact List.Mem.head _ | refine List.Mem.tail _ ?_)) Try.isAgg68 Try.sizeOf68 rfl)⟩ (fun hS => ?_)
  clear hK K
  try simp only [Act.put, sb, s0, sz]
  refine wpAnyH_ready (rs := [3]) (by kernel_rfl) (by simp) ?_
  refine (AllReadyH.cons (o := { dst := some 46, op := Go.Op.call { callee := Go.Callee.value (Go.Operand.func 33), args := #[Go.Operand.tmp 43, Go.Operand.tmp 45], argTypes := #[68, 70] }, type := 52, pos := "law.go:77", after := #[{ on := 0, ground := Go.Ground.data }, { on := 2, ground := Go.Ground.data }, { on := 2, ground := Go.Ground.chain }], guard := none }) rfl (fun K hK => ?_) AllReadyH.nil)
  (go_simp; refine (hPut hEg (fun W h => reads_row h 0 rfl) (fun W h => reads_row h 1 rfl) (fun W h => reads_row h 2 rfl)).mono ?_; rintro e wh ⟨v, rfl, pa, pc, rfl, hEh⟩)
  refine hK.out _ _ ⟨(atWm hEh (by repeat (first | exact List.Mem.head _ | refine List.Mem.tail _ ?_)) Try.isAgg66 Try.sizeOf66 rfl), (atWm hEh (by repeat (first | exact List.Mem.head _ | refine List.Mem.tail _ ?_)) Try.isAgg68 Try.sizeOf68 rfl)⟩ (fun hS => ?_)
  clear hK K
  try simp only [Act.put, sb, s0, sz]
  refine takeW 4 ⟨some 42, .move (.tmp 46), 52, "law.go:77", #[⟨3, .data⟩], none⟩ ?_ (.inl ⟨by rfl, ?_⟩) hS ?_
  rotate_left
  · (intro w hSw; (try dsimp only at hSw); go_simp; (try with_reducible rfl))
  try simp only [Act.put, sb, s0, sz]
  refine takeW 5 ⟨some 47, .extract (.tmp 42) 0, 42, "law.go:77", #[⟨4, .data⟩], none⟩ ?_ (.inl ⟨by rfl, ?_⟩) hS ?_
  rotate_left
  · (intro w hSw; (try dsimp only at hSw); go_simp; (try with_reducible rfl))
  try simp only [Act.put, sb, s0, sz]
  refine takeW 6 ⟨some 48, .extract (.tmp 42) 1, 25, "law.go:77", #[⟨4, .data⟩, { on := 7, ground := Go.Ground.gcOnly Go.Departure.lateStores }], none⟩ ?_ (.inl ⟨by rfl, ?_⟩) hS ?_
  rotate_left
  · (intro w hSw; (try dsimp only at hSw); go_simp; (try with_reducible rfl))
  try simp only [Act.put, sb, s0, sz]
  refine takeW 7 ⟨some 8, .assign (.tmp 47), 42, "law.go:77", #[⟨5, .data⟩, ⟨3, .chain⟩, ⟨0, .phase⟩, ⟨1, .phase⟩, ⟨2, .phase⟩, ⟨3, .phase⟩, ⟨4, .phase⟩, ⟨5, .phase⟩, { on := 6, ground := Go.Ground.textOnly Go.Departure.lateStores }], none⟩ ?_ (.inl ⟨by rfl, ?_⟩) hS ?_
  rotate_left
  · (intro w hSw; (try dsimp only at hSw); go_simp; (try with_reducible rfl))
  try simp only [Act.put, sb, s0, sz]
  refine takeW 8 ⟨some 9, .assign (.tmp 48), 25, "law.go:77", #[⟨6, .data⟩, ⟨7, .chain⟩, ⟨0, .phase⟩, ⟨1, .phase⟩, ⟨2, .phase⟩, ⟨3, .phase⟩, ⟨4, .phase⟩, ⟨5, .phase⟩, ⟨6, .phase⟩, ⟨7, .phase⟩], none⟩ ?_ (.inl ⟨by rfl, ?_⟩) hS ?_
  rotate_left
  · (intro w hSw; (try dsimp only at hSw); go_simp; (try with_reducible rfl))
  try simp only [Act.put, sb, s0, sz]
  refine wpAnyH_done (by kernel_rfl) ?_ _
  clear hPut hEf hEg
  cases may with
  | false =>
    obtain rfl : pu = [] := Hpu.out
    obtain rfl : pe = 2 := Hpe.out
    go_wp2_with (first
      | go_skip
      | ((with_reducible (show Go.wpList _ _ _ (Go.Oper.mk _ (.load 66 _) _ _ _ _ :: _) _ _)); refine wpl_loadW hEh 5 rfl rfl rfl rfl Try.isAgg66 Try.sizeOf66 (xs := [.bool leaf, .slice ka keys.length kc, .slice va vals.length vc, .slice ia kids.length ic]) rfl ?_)
      | ((with_reducible (show Go.wpList _ _ _ (Go.Oper.mk _ (.load 62 _) _ _ _ _ :: _) _ _)); refine wpl_loadW hEh 6 rfl rfl rfl rfl Try.isAgg62 Try.sizeOf62 (xs := [.int .i64 kw, .int .i64 vw]) rfl ?_)
      | (go_at_call 35; refine (hMay hEh (hk.suf (by repeat (first | exact List.suffix_refl _ | refine List.IsSuffix.trans ?_ (List.suffix_cons _ _)))) (hv.suf (by repeat (first | exact List.suffix_refl _ | refine List.IsSuffix.trans ?_ (List.suffix_cons _ _)))) (hi.suf (by repeat (first | exact List.suffix_refl _ | refine List.IsSuffix.trans ?_ (List.suffix_cons _ _))))).mono ?_; clear hEh; rintro e wi ⟨v, rfl, rfl, hEi⟩)
      | (go_at_call 26; refine (wakes09_any hEi).mono ?_; clear hEi; rintro e wj ⟨v, rfl, rfl, hEj⟩))
    go_ret
    exact ⟨_, rfl, rfl, hEj.suf ⟨[_, _, _, _, _, _, _], rfl⟩⟩
  | true =>
    have Hr := SL.hid (Hrise.out rfl)
    obtain ⟨pl, hpl⟩ : ∃ pl, pl = pu := ⟨_, rfl⟩
    obtain rfl : pu = pg := Hpu.out
    obtain rfl : pe = 0 := Hpe.out
    clear hpl Hpu Hpe Hrise
    have hrP2 := fun {l : List HProp} {w : World} (h : Ent l w) a b c => hrP rfl h a b c
    clear hrP
    go_wp2_with (first
      | go_skip
      | ((with_reducible (show Go.wpList _ _ _ (Go.Oper.mk _ (.load 66 _) _ _ _ _ :: _) _ _)); refine wpl_loadW hEh 5 rfl rfl rfl rfl Try.isAgg66 Try.sizeOf66 (xs := [.bool leaf, .slice ka keys.length kc, .slice va vals.length vc, .slice ia kids.length ic]) rfl ?_)
      | ((with_reducible (show Go.wpList _ _ _ (Go.Oper.mk _ (.load 62 _) _ _ _ _ :: _) _ _)); refine wpl_loadW hEh 6 rfl rfl rfl rfl Try.isAgg62 Try.sizeOf62 (xs := [.int .i64 kw, .int .i64 vw]) rfl ?_)
      | (go_at_call 35; refine (hMay hEh (hk.suf (by repeat (first | exact List.suffix_refl _ | refine List.IsSuffix.trans ?_ (List.suffix_cons _ _)))) (hv.suf (by repeat (first | exact List.suffix_refl _ | refine List.IsSuffix.trans ?_ (List.suffix_cons _ _)))) (hi.suf (by repeat (first | exact List.suffix_refl _ | refine List.IsSuffix.trans ?_ (List.suffix_cons _ _))))).mono ?_; clear hEh; rintro e wi ⟨v, rfl, rfl, hEi⟩))
    go_loopw [10, 11, 12] (fun s m i wr => LmRel keys key (rowB pa pc pu :: rowS k2 kd keys :: rowS v2 vd vals :: rowI i2 id kids :: shB b7 68 kw vw :: ndB b4 66 leaf keys vals kids ka va ia kc vc ic :: shB b3 62 kw vw :: l) s m i wr) (fun _ _ i _ => keys.length - (intOf i).toNat)
    case atStart => exact ⟨0, Nat.zero_le _, rfl, rfl, rfl, hEi⟩
    case round =>
      clear hEi
      obtain ⟨k, hkl, rfl, rfl, rfl, hE⟩ := hrel
      have u1 : (keys.take k).countP (ltK key) ≤ 600 := by have := List.countP_le_length (p := ltK key) (l := keys.take k); rw [List.length_take] at this; omega
      have u2 : (keys.take k).countP (leK key) ≤ 600 := by have := List.countP_le_length (p := leK key) (l := keys.take k); rw [List.length_take] at this; omega
      by_cases hlt : k < keys.length
      · obtain ⟨bb, bo, rfl, k0⟩ := reads_map (hk _ (hE.suf (by repeat (first | exact List.suffix_refl _ | refine List.IsSuffix.trans ?_ (List.suffix_cons _ _))))) hlt
        have Hs1 := SL.hid (countP_snoc (ltK key) hlt)
        have Hs2 := SL.hid (countP_snoc (leK key) hlt)
        have Hl := SL.hid (show ltK key keys[k] = Op.bytesLess keys[k] key ∧ leK key keys[k] = (Op.bytesLess keys[k] key || keys[k] == key) from ⟨rfl, rfl⟩)
        generalize keys[k] = x at *
        rw [strv] at k0
        have l0 : (Instr.loadAt 9 (.pointer (some ⟨bb, bo + k, none⟩))).run Try.prog wr = .ok (.string ⟨x.toArray⟩) wr := atCell k0 (by simp [go_sem])
        generalize (keys.take k).countP (ltK key) = c1 at *
        generalize (keys.take k).countP (leK key) = c2 at *
        cases hb : Op.bytesLess x key with
        | true =>
          have Z1 := SL.hid (show (keys.take (k + 1)).countP (ltK key) = c1 + 1 by rw [Hs1.out, Hl.out.1, hb]; rfl)
          have Z2 := SL.hid (show (keys.take (k + 1)).countP (leK key) = c2 + 1 by rw [Hs2.out, Hl.out.2, hb]; rfl)
          go_wp2_with (first | go_skip | ((with_reducible (show Go.wpList _ _ _ (Go.Oper.mk _ (.load 63 _) _ _ _ _ :: _) _ _)); refine wpl_load1 hE 5 rfl rfl rfl rfl (by simp [go_sem]) rfl ?_))
          go_roundw
          case rel => exact ⟨k + 1, hlt, by first | rfl | simp, by rw [Z1.out]; first | rfl | simp, by rw [Z2.out]; first | rfl | simp, hE⟩
          case measure => simp [intOf] <;> omega
        | false =>
          have Z1 := SL.hid (show (keys.take (k + 1)).countP (ltK key) = c1 by rw [Hs1.out, Hl.out.1, hb]; rfl)
          cases he : (x == key) with
          | true =>
            have Z2 := SL.hid (show (keys.take (k + 1)).countP (leK key) = c2 + 1 by rw [Hs2.out, Hl.out.2, hb, he]; rfl)
            go_wp2_with (first | go_skip | ((with_reducible (show Go.wpList _ _ _ (Go.Oper.mk _ (.load 63 _) _ _ _ _ :: _) _ _)); refine wpl_load1 hE 5 rfl rfl rfl rfl (by simp [go_sem]) rfl ?_))
            go_roundw
            case rel => exact ⟨k + 1, hlt, by first | rfl | simp, by rw [Z1.out], by rw [Z2.out]; first | rfl | simp, hE⟩
            case measure => simp [intOf] <;> omega
          | false =>
            have Z2 := SL.hid (show (keys.take (k + 1)).countP (leK key) = c2 by rw [Hs2.out, Hl.out.2, hb, he]; rfl)
            go_wp2_with (first | go_skip | ((with_reducible (show Go.wpList _ _ _ (Go.Oper.mk _ (.load 63 _) _ _ _ _ :: _) _ _)); refine wpl_load1 hE 5 rfl rfl rfl rfl (by simp [go_sem]) rfl ?_))
            go_roundw
            case rel => exact ⟨k + 1, hlt, by first | rfl | simp, by rw [Z1.out], by rw [Z2.out], hE⟩
            case measure => simp [intOf] <;> omega
      · obtain rfl : k = keys.length := by omega
        rw [List.take_length] at u1 u2 ⊢
        obtain ⟨f1, f2, f3, f4⟩ := find_at Hr.out key
        have e1 : keys.countP (ltK key) = placeOf keys key := rfl
        have e2 : keys.countP (leK key) = downOf keys key := f3
        rw [e1] at u1 ⊢
        rw [e2] at u2 ⊢
        have hF := fun {l : List HProp} {w : World} {k3 : Option Addr} {ke : Nat} {v2 v3 : Value} (h : Ent l w) (a : Knows l (reads (.slice k3 keys.length ke) keys.length (keys.map strv))) => Find_any (leaf := leaf) (v2 := v2) (v3 := v3) bk Hr.out key h a
        have hD := fun {l : List HProp} {w : World} {k3 : Option Addr} {ke : Nat} {v2 v3 : Value} (h : Ent l w) (a : Knows l (reads (.slice k3 keys.length ke) keys.length (keys.map strv))) => Down_any (leaf := leaf) (v2 := v2) (v3 := v3) bk Hr.out key h a
        have Hd := SL.hid (show downOf keys key = placeOf keys key + if isIn keys key then 1 else 0 from rfl)
        clear f1 f2 f3 f4 e1 e2 Hr hkl hlt
        generalize placeOf keys key = pl at *
        generalize downOf keys key = dn at *
        generalize isIn keys key = ii at *
        have hii : decide (pl < dn) = ii := by
          rw [Hd.out]
          cases ii <;> simp
        go_wp2_with (first
          | go_skip
          | ((with_reducible (show Go.wpList _ _ _ (Go.Oper.mk _ (.load 66 _) _ _ _ _ :: _) _ _)); refine wpl_loadW hE 5 rfl rfl rfl rfl Try.isAgg66 Try.sizeOf66 (xs := [.bool leaf, .slice ka keys.length kc, .slice va vals.length vc, .slice ia kids.length ic]) rfl ?_)
          | ((with_reducible (show Go.wpList _ _ _ (Go.Oper.mk _ (.load 63 _) _ _ _ _ :: _) _ _)); refine wpl_load1 hE 5 rfl rfl rfl rfl (by simp [go_sem]) rfl ?_)
          | (go_at_call 34; refine (hOf hE (hk.suf (by repeat (first | exact List.suffix_refl _ | refine List.IsSuffix.trans ?_ (List.suffix_cons _ _)))) (hv.suf (by repeat (first | exact List.suffix_refl _ | refine List.IsSuffix.trans ?_ (List.suffix_cons _ _)))) (hi.suf (by repeat (first | exact List.suffix_refl _ | refine List.IsSuffix.trans ?_ (List.suffix_cons _ _))))).mono ?_; clear hE; rintro e wl ⟨v, rfl, k3, ke, v3, ve, i3, ie, rfl, hEl⟩)
          | (go_at_call 36; refine (hF hEl (fun W h => reads_row h 0 rfl)).mono ?_; clear hEl; rintro e wm ⟨v, rfl, rfl, hEm⟩))
        refine wp_region_held_drew (S := (fun w' => ((Instr.loadAt 62 (.pointer (some ⟨b3, 0, none⟩))).run Try.prog w' = .ok (.agg [.int .i64 kw, .int .i64 vw].toArray) w') ∧ ((Instr.loadAt 66 (.pointer (some ⟨b4, 0, none⟩))).run Try.prog w' = .ok (.agg [.bool leaf, .slice ka keys.length kc, .slice va vals.length vc, .slice ia kids.length ic].toArray) w') ∧ ((convert 42 9 (.slice pa pu.length pc)).run Try.prog w' = .ok (.string ⟨pu.toArray⟩) w'))) (by kernel_rfl) ⟨(atWm hEm.drew (by repeat (first | exact List.Mem.head _ | refine List.Mem.tail _ ?_)) Try.isAgg62 Try.sizeOf62 rfl), (atWm hEm.drew (by repeat (first | exact List.Mem.head _ | refine List.Mem.tail _ ?_)) Try.isAgg66 Try.sizeOf66 rfl), (bytesToString_reads (P := Try.prog) Try.underlying42 Try.underlying5 Try.underlying9 (bs := pu) (reads_rowM hEm.drew (by repeat (first | exact List.Mem.head _ | refine List.Mem.tail _ ?_))) rfl)⟩ (fun hS => ?_)
        refine takeW 0 ⟨some 95, .move (.tmp 8), 42, "law.go:91", #[], none⟩ ?_ (.inl ⟨by rfl, ?_⟩) hS ?_
        rotate_left
        · (intro w hSw; (try dsimp only at hSw); go_simp; (try with_reducible rfl))
        try simp only [Act.put, sb, s0, sz]
        refine takeW 1 ⟨some 96, .convert 42 9 (.tmp 95), 9, "law.go:91", #[⟨0, .data⟩], none⟩ ?_ (.inl ⟨by rfl, ?_⟩) hS ?_
        rotate_left
        · (intro w hSw; (try dsimp only at hSw); go_simp; (try with_reducible rfl))
        try simp only [Act.put, sb, s0, sz]
        refine takeW 2 ⟨some 97, .load 62 (.tmp 3), 62, "law.go:91", #[], none⟩ ?_ (.inl ⟨by rfl, ?_⟩) hS ?_
        rotate_left
        · (intro w hSw; (try dsimp only at hSw); go_simp; (try with_reducible rfl))
        try simp only [Act.put, sb, s0, sz]
        refine takeW 3 ⟨some 98, .load 66 (.tmp 4), 66, "law.go:91", #[], none⟩ ?_ (.inl ⟨by rfl, ?_⟩) hS ?_
        rotate_left
        · (intro w hSw; (try dsimp only at hSw); go_simp; (try with_reducible rfl))
        try simp only [Act.put, sb, s0, sz]
        refine wpAnyH_ready (rs := [4]) (by kernel_rfl) (by simp) ?_
        refine (AllReadyH.cons (o := { dst := some 99, op := Go.Op.call { callee := Go.Callee.value (Go.Operand.func 37), args := #[Go.Operand.tmp 97, Go.Operand.tmp 98], argTypes := #[62, 66] }, type := 9, pos := "law.go:91", after := #[{ on := 2, ground := Go.Ground.data }, { on := 3, ground := Go.Ground.data }], guard := none }) rfl (fun K hK => ?_) AllReadyH.nil)
        (go_simp; refine (hrP2 hEm.drew (hk.suf (by repeat (first | exact List.suffix_refl _ | refine List.IsSuffix.trans ?_ (List.suffix_cons _ _)))) (hv.suf (by repeat (first | exact List.suffix_refl _ | refine List.IsSuffix.trans ?_ (List.suffix_cons _ _)))) (hi.suf (by repeat (first | exact List.suffix_refl _ | refine List.IsSuffix.trans ?_ (List.suffix_cons _ _))))).mono ?_; rintro e wn ⟨v, rfl, rfl, hEn⟩)
        refine hK.out _ _ ⟨(atWm hEn (by repeat (first | exact List.Mem.head _ | refine List.Mem.tail _ ?_)) Try.isAgg62 Try.sizeOf62 rfl), (atWm hEn (by repeat (first | exact List.Mem.head _ | refine List.Mem.tail _ ?_)) Try.isAgg66 Try.sizeOf66 rfl), (bytesToString_reads (P := Try.prog) Try.underlying42 Try.underlying5 Try.underlying9 (bs := pu) (reads_rowM hEn (by repeat (first | exact List.Mem.head _ | refine List.Mem.tail _ ?_))) rfl)⟩ (fun hS => ?_)
        clear hK K
        try simp only [Act.put, sb, s0, sz]
        refine takeW 5 ⟨some 100, .binOp .eql 9 (.tmp 96) (.tmp 99) 9, 4, "law.go:91", #[⟨1, .data⟩, ⟨4, .data⟩], none⟩ ?_ (.inl ⟨by rfl, ?_⟩) hS ?_
        rotate_left
        · (intro w hSw; (try dsimp only at hSw); go_simp; (try with_reducible rfl))
        try simp only [Act.put, sb, s0, sz]
        refine takeW 6 ⟨some 101, .move (.tmp 100), 4, "law.go:91", #[⟨5, .data⟩, ⟨4, .chain⟩], none⟩ ?_ (.inl ⟨by rfl, ?_⟩) hS ?_
        rotate_left
        · (intro w hSw; (try dsimp only at hSw); go_simp; (try with_reducible rfl))
        try simp only [Act.put, sb, s0, sz]
        refine takeW 7 ⟨some 102, .move (.tmp 9), 25, "law.go:91", #[⟨6, .guard⟩], some (6, true)⟩ ?_ (.inl ⟨by rfl, ?_⟩) hS ?_
        rotate_left
        · (intro w hSw; (try dsimp only at hSw); go_simp; (try with_reducible rfl))
        try simp only [Act.put, sb, s0, sz]
        refine takeW 8 ⟨some 103, .binOp .eql 25 (.tmp 102) (.const (.int .i64 0)) 25, 4, "law.go:91", #[⟨7, .data⟩, ⟨6, .guard⟩], some (6, true)⟩ ?_ (.inl ⟨by rfl, ?_⟩) hS ?_
        rotate_left
        · (intro w hSw; (try dsimp only at hSw); go_simp; (try with_reducible rfl))
        try simp only [Act.put, sb, s0, sz]
        refine takeW 9 ⟨some 104, .pick (.tmp 101) (.tmp 103) (.const (.bool false)), 4, "law.go:91", #[⟨6, .data⟩, ⟨8, .data⟩], none⟩ ?_ (.inl ⟨by rfl, ?_⟩) hS ?_
        rotate_left
        · (intro w hSw; (try dsimp only at hSw); go_simp; (try with_reducible rfl))
        try simp only [Act.put, sb, s0, sz]
        refine takeW 10 ⟨some 105, .move (.tmp 104), 4, "law.go:91", #[⟨9, .data⟩, ⟨6, .chain⟩], none⟩ ?_ (.inl ⟨by rfl, ?_⟩) hS ?_
        rotate_left
        · (intro w hSw; (try dsimp only at hSw); go_simp; (try with_reducible rfl))
        try simp only [Act.put, sb, s0, sz]
        refine takeW 11 ⟨some 106, .move (.tmp 13), 3, "law.go:91", #[⟨10, .guard⟩], some (10, true)⟩ ?_ (.inl ⟨by rfl, ?_⟩) hS ?_
        rotate_left
        · (intro w hSw; (try dsimp only at hSw); go_simp; (try with_reducible rfl))
        try simp only [Act.put, sb, s0, sz]
        refine takeW 12 ⟨some 107, .move (.tmp 10), 3, "law.go:91", #[⟨10, .guard⟩], some (10, true)⟩ ?_ (.inl ⟨by rfl, ?_⟩) hS ?_
        rotate_left
        · (intro w hSw; (try dsimp only at hSw); go_simp; (try with_reducible rfl))
        try simp only [Act.put, sb, s0, sz]
        refine takeW 13 ⟨some 108, .binOp .eql 3 (.tmp 106) (.tmp 107) 3, 4, "law.go:91", #[⟨11, .data⟩, ⟨12, .data⟩, ⟨10, .guard⟩], some (10, true)⟩ ?_ (.inl ⟨by rfl, ?_⟩) hS ?_
        rotate_left
        · (intro w hSw; (try dsimp only at hSw); go_simp; (try with_reducible rfl))
        try simp only [Act.put, sb, s0, sz]
        refine takeW 14 ⟨some 109, .pick (.tmp 105) (.tmp 108) (.const (.bool false)), 4, "law.go:91", #[⟨10, .data⟩, ⟨13, .data⟩], none⟩ ?_ (.inl ⟨by rfl, ?_⟩) hS ?_
        rotate_left
        · (intro w hSw; (try dsimp only at hSw); go_simp; (try with_reducible rfl))
        try simp only [Act.put, sb, s0, sz]
        refine takeW 15 ⟨some 110, .move (.tmp 109), 4, "law.go:91", #[⟨14, .data⟩, ⟨10, .chain⟩], none⟩ ?_ (.inl ⟨by rfl, ?_⟩) hS ?_
        rotate_left
        · (intro w hSw; (try dsimp only at hSw); go_simp; (try with_reducible rfl))
        try simp only [Act.put, sb, s0, sz]
        refine takeW 16 ⟨some 111, .move (.tmp 14), 4, "law.go:91", #[⟨15, .guard⟩], some (15, true)⟩ ?_ (.inl ⟨by rfl, ?_⟩) hS ?_
        rotate_left
        · (intro w hSw; (try dsimp only at hSw); go_simp; (try with_reducible rfl))
        try simp only [Act.put, sb, s0, sz]
        refine takeW 17 ⟨some 112, .move (.tmp 11), 3, "law.go:91", #[⟨15, .guard⟩], some (15, true)⟩ ?_ (.inl ⟨by rfl, ?_⟩) hS ?_
        rotate_left
        · (intro w hSw; (try dsimp only at hSw); go_simp; (try with_reducible rfl))
        try simp only [Act.put, sb, s0, sz]
        refine takeW 18 ⟨some 113, .move (.tmp 10), 3, "law.go:91", #[⟨15, .guard⟩], some (15, true)⟩ ?_ (.inl ⟨by rfl, ?_⟩) hS ?_
        rotate_left
        · (intro w hSw; (try dsimp only at hSw); go_simp; (try with_reducible rfl))
        try simp only [Act.put, sb, s0, sz]
        refine takeW 19 ⟨some 114, .binOp .gtr 3 (.tmp 112) (.tmp 113) 3, 4, "law.go:91", #[⟨17, .data⟩, ⟨18, .data⟩, ⟨15, .guard⟩], some (15, true)⟩ ?_ (.inl ⟨by rfl, ?_⟩) hS ?_
        rotate_left
        · (intro w hSw; (try dsimp only at hSw); go_simp; (try with_reducible rfl))
        try simp only [Act.put, sb, s0, sz]
        refine takeW 20 ⟨some 115, .binOp .eql 4 (.tmp 111) (.tmp 114) 4, 4, "law.go:91", #[⟨16, .data⟩, ⟨19, .data⟩, ⟨15, .guard⟩], some (15, true)⟩ ?_ (.inl ⟨by rfl, ?_⟩) hS ?_
        rotate_left
        · (intro w hSw; (try dsimp only at hSw); go_simp; (try with_reducible rfl))
        try simp only [Act.put, sb, s0, sz]
        refine takeW 21 ⟨some 116, .pick (.tmp 110) (.tmp 115) (.const (.bool false)), 4, "law.go:91", #[⟨15, .data⟩, ⟨20, .data⟩], none⟩ ?_ (.inl ⟨by rfl, ?_⟩) hS ?_
        rotate_left
        · (intro w hSw; (try dsimp only at hSw); go_simp; (try with_reducible rfl))
        try simp only [Act.put, sb, s0, sz]
        refine takeW 22 ⟨some 117, .move (.tmp 116), 4, "law.go:91", #[⟨21, .data⟩, ⟨15, .chain⟩], none⟩ ?_ (.inl ⟨by rfl, ?_⟩) hS ?_
        rotate_left
        · (intro w hSw; (try dsimp only at hSw); go_simp; (try with_reducible rfl))
        try simp only [Act.put, sb, s0, sz]
        refine takeW 23 ⟨some 118, .load 66 (.tmp 4), 66, "law.go:91", #[⟨22, .guard⟩], some (22, true)⟩ ?_ (.inl ⟨by rfl, ?_⟩) hS ?_
        rotate_left
        · (intro w hSw; (try dsimp only at hSw); go_simp; (try with_reducible rfl))
        try simp only [Act.put, sb, s0, sz]
        refine takeW 25 ⟨some 120, .move (.tmp 2), 9, "law.go:91", #[⟨22, .guard⟩], some (22, true)⟩ ?_ (.inl ⟨by rfl, ?_⟩) hS ?_
        rotate_left
        · (intro w hSw; (try dsimp only at hSw); go_simp; (try with_reducible rfl))
        try simp only [Act.put, sb, s0, sz]
        refine takeW 27 ⟨some 122, .move (.tmp 11), 3, "law.go:91", #[⟨22, .guard⟩], some (22, true)⟩ ?_ (.inl ⟨by rfl, ?_⟩) hS ?_
        rotate_left
        · (intro w hSw; (try dsimp only at hSw); go_simp; (try with_reducible rfl))
        try simp only [Act.put, sb, s0, sz]
        refine wpAnyH_ready (rs := [24]) (by kernel_rfl) (by simp) ?_
        refine (AllReadyH.cons (o := { dst := some 119, op := Go.Op.call { callee := Go.Callee.value (Go.Operand.func 34), args := #[Go.Operand.tmp 118], argTypes := #[66] }, type := 70, pos := "law.go:91", after := #[{ on := 23, ground := Go.Ground.data }, { on := 22, ground := Go.Ground.chain }, { on := 22, ground := Go.Ground.guard }], guard := some (22, true) }) rfl (fun K hK => ?_) AllReadyH.nil)
        (go_simp; refine (hOf hEn (hk.suf (by repeat (first | exact List.suffix_refl _ | refine List.IsSuffix.trans ?_ (List.suffix_cons _ _)))) (hv.suf (by repeat (first | exact List.suffix_refl _ | refine List.IsSuffix.trans ?_ (List.suffix_cons _ _)))) (hi.suf (by repeat (first | exact List.suffix_refl _ | refine List.IsSuffix.trans ?_ (List.suffix_cons _ _))))).mono ?_; rintro e wo ⟨v, rfl, k4, kf, v4, vf, i4, jf, rfl, hEo⟩)
        refine hK.out _ _ ⟨(atWm hEo (by repeat (first | exact List.Mem.head _ | refine List.Mem.tail _ ?_)) Try.isAgg62 Try.sizeOf62 rfl), (atWm hEo (by repeat (first | exact List.Mem.head _ | refine List.Mem.tail _ ?_)) Try.isAgg66 Try.sizeOf66 rfl), (bytesToString_reads (P := Try.prog) Try.underlying42 Try.underlying5 Try.underlying9 (bs := pu) (reads_rowM hEo (by repeat (first | exact List.Mem.head _ | refine List.Mem.tail _ ?_))) rfl)⟩ (fun hS => ?_)
        clear hK K
        try simp only [Act.put, sb, s0, sz]
        refine wpAnyH_ready (rs := [26]) (by kernel_rfl) (by simp) ?_
        refine (AllReadyH.cons (o := { dst := some 121, op := Go.Op.call { callee := Go.Callee.value (Go.Operand.func 38), args := #[Go.Operand.tmp 119, Go.Operand.tmp 120], argTypes := #[70, 9] }, type := 3, pos := "law.go:91", after := #[{ on := 24, ground := Go.Ground.data }, { on := 25, ground := Go.Ground.data }, { on := 24, ground := Go.Ground.chain }, { on := 22, ground := Go.Ground.guard }], guard := some (22, true) }) rfl (fun K hK => ?_) AllReadyH.nil)
        (go_simp; refine (hD hEo (fun W h => reads_row h 0 rfl)).mono ?_; rintro e wp ⟨v, rfl, rfl, hEp⟩)
        refine hK.out _ _ ⟨(atWm hEp (by repeat (first | exact List.Mem.head _ | refine List.Mem.tail _ ?_)) Try.isAgg62 Try.sizeOf62 rfl), (atWm hEp (by repeat (first | exact List.Mem.head _ | refine List.Mem.tail _ ?_)) Try.isAgg66 Try.sizeOf66 rfl), (bytesToString_reads (P := Try.prog) Try.underlying42 Try.underlying5 Try.underlying9 (bs := pu) (reads_rowM hEp (by repeat (first | exact List.Mem.head _ | refine List.Mem.tail _ ?_))) rfl)⟩ (fun hS => ?_)
        clear hK K
        try simp only [Act.put, sb, s0, sz]
        refine takeW 28 ⟨some 123, .binOp .eql 3 (.tmp 121) (.tmp 122) 3, 4, "law.go:91", #[⟨26, .data⟩, ⟨27, .data⟩, ⟨22, .guard⟩], some (22, true)⟩ ?_ (.inl ⟨by rfl, ?_⟩) hS ?_
        rotate_left
        · (intro w hSw; (try dsimp only at hSw); go_simp; (try with_reducible rfl))
        try simp only [Act.put, sb, s0, sz]
        refine takeW 29 ⟨some 124, .pick (.tmp 117) (.tmp 123) (.const (.bool false)), 4, "law.go:91", #[⟨22, .data⟩, ⟨28, .data⟩], none⟩ ?_ (.inl ⟨by rfl, ?_⟩) hS ?_
        rotate_left
        · (intro w hSw; (try dsimp only at hSw); go_simp; (try with_reducible rfl))
        try simp only [Act.put, sb, s0, sz]
        refine takeW 30 ⟨some 125, .move (.tmp 124), 4, "law.go:91", #[⟨29, .data⟩, ⟨26, .chain⟩], none⟩ ?_ (.inl ⟨by rfl, ?_⟩) hS ?_
        rotate_left
        · (intro w hSw; (try dsimp only at hSw); go_simp; (try with_reducible rfl))
        try simp only [Act.put, sb, s0, sz]
        refine wpAnyH_ready (rs := [31]) (by kernel_rfl) (by simp) ?_
        refine (AllReadyH.cons (o := { dst := some 126, op := Go.Op.call { callee := Go.Callee.value (Go.Operand.func 26), args := #[], argTypes := #[] }, type := 4, pos := "law.go:91", after := #[{ on := 30, ground := Go.Ground.chain }, { on := 30, ground := Go.Ground.guard }], guard := some (30, true) }) rfl (fun K hK => ?_) AllReadyH.nil)
        (go_simp; refine (wakes09_any hEp).mono ?_; rintro e wq ⟨v, rfl, rfl, hEq⟩)
        refine hK.out _ _ ⟨(atWm hEq (by repeat (first | exact List.Mem.head _ | refine List.Mem.tail _ ?_)) Try.isAgg62 Try.sizeOf62 rfl), (atWm hEq (by repeat (first | exact List.Mem.head _ | refine List.Mem.tail _ ?_)) Try.isAgg66 Try.sizeOf66 rfl), (bytesToString_reads (P := Try.prog) Try.underlying42 Try.underlying5 Try.underlying9 (bs := pu) (reads_rowM hEq (by repeat (first | exact List.Mem.head _ | refine List.Mem.tail _ ?_))) rfl)⟩ (fun hS => ?_)
        clear hK K
        try simp only [Act.put, sb, s0, sz]
        refine takeW 32 ⟨some 127, .pick (.tmp 125) (.tmp 126) (.const (.bool false)), 4, "law.go:91", #[⟨30, .data⟩, ⟨31, .data⟩], none⟩ ?_ (.inl ⟨by rfl, ?_⟩) hS ?_
        rotate_left
        · (intro w hSw; (try dsimp only at hSw); go_simp; (try with_reducible rfl))
        try simp only [Act.put, sb, s0, sz]
        refine takeW 33 ⟨some 6, .assign (.tmp 127), 4, "law.go:91", #[⟨32, .data⟩, ⟨31, .chain⟩, ⟨0, .phase⟩, ⟨1, .phase⟩, ⟨2, .phase⟩, ⟨3, .phase⟩, ⟨4, .phase⟩, ⟨5, .phase⟩, ⟨6, .phase⟩, ⟨7, .phase⟩, ⟨8, .phase⟩, ⟨9, .phase⟩, ⟨10, .phase⟩, ⟨11, .phase⟩, ⟨12, .phase⟩, ⟨13, .phase⟩, ⟨14, .phase⟩, ⟨15, .phase⟩, ⟨16, .phase⟩, ⟨17, .phase⟩, ⟨18, .phase⟩, ⟨19, .phase⟩, ⟨20, .phase⟩, ⟨21, .phase⟩, ⟨22, .phase⟩, ⟨23, .phase⟩, ⟨24, .phase⟩, ⟨25, .phase⟩, ⟨26, .phase⟩, ⟨27, .phase⟩, ⟨28, .phase⟩, ⟨29, .phase⟩, ⟨30, .phase⟩, ⟨31, .phase⟩, ⟨32, .phase⟩], none⟩ ?_ (.inl ⟨by rfl, ?_⟩) hS ?_
        rotate_left
        · (intro w hSw; (try dsimp only at hSw); go_simp; (try with_reducible rfl))
        try simp only [Act.put, sb, s0, sz]
        refine wpAnyH_done (by kernel_rfl) ?_ _
        go_wp2
        go_ret
        exact ⟨_, rfl, rfl, hEq.suf ⟨[_, _, _, _, _, _, _, _, _, _, _, _, _], rfl⟩⟩

end Go.Proofs.Ytohdljcpaogokaa
