/-
  The stage's theorem of the nodes: the walk of its function. Printed by gen_ndb.py.
-/
import Derived.Test.YtohdljcpaogokaaNda
namespace Go.SL
/-- a list of assertions that stands behind some others -/
theorem Ent.cut {l m : List HProp} {w : World} (n : Nat) (h : Ent l w) (hm : l.drop n = m) : Ent m w := by
  rw [← hm]
  have e : l.take n ++ l.drop n = l := List.take_append_drop n l
  rw [← e] at h
  exact h.drop
end Go.SL
namespace Go.Proofs.Ytohdljcpaogokaa
open Go.RowKit Go.SL

theorem putU_ok {kw vw : Int} {n : Nd} (h : putE kw vw n = 0) : mayN kw vw n = true ∧ putU kw vw n = pageU n := by
  unfold putE at h
  unfold putU
  split at h
  · rename_i hm
    exact ⟨hm, if_pos hm⟩
  · simp at h
theorem putE_zero {kw vw : Int} {n : Nd} (h : mayN kw vw n = true) : putE kw vw n = 0 ∧ putU kw vw n = pageU n := by
  rw [putE, putU, h]; exact ⟨rfl, rfl⟩
theorem nodeR_bounds {kw vw : Int} {b : List UInt8} (h : errN kw vw b = 0) : (resN kw vw b).keys.length ≤ 508 ∧ (resN kw vw b).kids.length ≤ 509 ∧ ((resN kw vw b).vals.length ≤ 508) := by
  obtain ⟨hm, _⟩ := take_ok h
  have := may_parts hm
  refine ⟨this.1, this.2.1, ?_⟩
  cases hl : (resN kw vw b).leaf with
  | true => have := this.2.2.2.1 hl; have := (may_parts hm).1; omega
  | false =>
    simp only [mayN, mayB, Bool.and_eq_true, hl, Bool.false_eq_true, if_false, mayI, beq_iff_eq] at hm
    omega


set_option maxRecDepth 100000 in
set_option maxHeartbeats 16000000 in
attribute [-go_sem] Instr.loadAt in
theorem NodeBack_any {kw vw : Int} {leaf : Bool} {keys vals : List (List UInt8)} {kids : List Int} {ka va ia : Option Addr} {kc vc ic : Nat} {b : List UInt8} {ab : Option Addr} {cb : Nat} {l : List HProp} {w : World} (hE : Ent l w) (hk : Knows l (reads (.slice ka keys.length kc) keys.length (keys.map strv))) (hv : Knows l (reads (.slice va vals.length vc) vals.length (vals.map strv))) (hi : Knows l (reads (.slice ia kids.length ic) kids.length (kids.map intv))) (hkb : Knows l (reads (.slice ab b.length cb) b.length (bvals b))) :
    Calls Try.prog 8 #[.agg #[.int .i64 kw, .int .i64 vw], .agg #[.bool leaf, .slice ka keys.length kc, .slice va vals.length vc, .slice ia kids.length ic], .slice ab b.length cb] w (Ret fun v w' => v = .bool true ∧ Ent l w') := by
  have hG := fun {l : List HProp} {w : World} (h : Ent l w) a b c => great_node' (leaf := leaf) (keys := keys) (vals := vals) (kids := kids) (ka := ka) (va := va) (ia := ia) (kc := kc) (vc := vc) (ic := ic) h a b c
  by_cases hbl : (600 : Int) < (b.length : Int)
  · go_enter Try.func8, Try.ntmps8
    go_wp2_with (first
      | go_skip
      | ((with_reducible (show Go.wpList _ _ _ (Go.Oper.mk _ (.box _ (.tmp 0)) _ _ _ _ :: _) _ _)); refine wpl_box hE rfl rfl rfl ?_; clear hE; intro b3 w hE; simp only [Act.eval, Act.put, List.setIfInBounds_toArray, List.set_cons_zero, List.set_cons_succ, getD_lit, List.getD_cons_succ, List.getD_cons_zero, Value.cells] at hE)
      | ((with_reducible (show Go.wpList _ _ _ (Go.Oper.mk _ (.box _ (.tmp 1)) _ _ _ _ :: _) _ _)); refine wpl_box hE rfl rfl rfl ?_; clear hE; intro b4 w hE; simp only [Act.eval, Act.put, List.setIfInBounds_toArray, List.set_cons_zero, List.set_cons_succ, getD_lit, List.getD_cons_succ, List.getD_cons_zero, Value.cells] at hE)
      | ((with_reducible (show Go.wpList _ _ _ (Go.Oper.mk _ (.load 66 _) _ _ _ _ :: _) _ _)); refine wpl_loadW hE 0 rfl rfl rfl rfl Try.isAgg66 Try.sizeOf66 (xs := [.bool leaf, .slice ka keys.length kc, .slice va vals.length vc, .slice ia kids.length ic]) rfl ?_)
      | (go_at_call 25; refine (hG hE (hk.suf (by repeat (first | exact List.suffix_refl _ | refine List.IsSuffix.trans ?_ (List.suffix_cons _ _)))) (hv.suf (by repeat (first | exact List.suffix_refl _ | refine List.IsSuffix.trans ?_ (List.suffix_cons _ _)))) (hi.suf (by repeat (first | exact List.suffix_refl _ | refine List.IsSuffix.trans ?_ (List.suffix_cons _ _))))).mono ?_; clear hE; rintro e w2 ⟨v, rfl, ⟨g, rfl, hgr⟩, hE⟩; have Hgr := SL.hid hgr; clear hgr; cases g)
      | (go_at_call 26; refine (wakes09_any hE).mono ?_; clear hE; rintro e w3 ⟨v, rfl, rfl, hE9⟩))
    all_goals
      go_ret
      exact ⟨_, rfl, rfl, hE9.tail.tail⟩
  have hbd : decide ((600 : Int) < (b.length : Int)) = false := decide_eq_false hbl
  have hbl2 : b.length ≤ 600 := by omega
  clear hbl
  have hT := fun {l : List HProp} {w : World} (h : Ent l w) (a : Knows l (reads (.slice ab b.length cb) b.length (bvals b))) => Take_node (kw := kw) (vw := vw) (show b.length ≤ 100000 by omega) h a
  go_enter Try.func8, Try.ntmps8
  go_wp2_with (first
    | go_skip
    | ((with_reducible (show Go.wpList _ _ _ (Go.Oper.mk _ (.box _ (.tmp 0)) _ _ _ _ :: _) _ _)); refine wpl_box hE rfl rfl rfl ?_; clear hE; intro b3 w hE; simp only [Act.eval, Act.put, List.setIfInBounds_toArray, List.set_cons_zero, List.set_cons_succ, getD_lit, List.getD_cons_succ, List.getD_cons_zero, Value.cells] at hE)
    | ((with_reducible (show Go.wpList _ _ _ (Go.Oper.mk _ (.box _ (.tmp 1)) _ _ _ _ :: _) _ _)); refine wpl_box hE rfl rfl rfl ?_; clear hE; intro b4 w hE; simp only [Act.eval, Act.put, List.setIfInBounds_toArray, List.set_cons_zero, List.set_cons_succ, getD_lit, List.getD_cons_succ, List.getD_cons_zero, Value.cells] at hE)
    | ((with_reducible (show Go.wpList _ _ _ (Go.Oper.mk _ (.load 66 _) _ _ _ _ :: _) _ _)); refine wpl_loadW hE 0 rfl rfl rfl rfl Try.isAgg66 Try.sizeOf66 (xs := [.bool leaf, .slice ka keys.length kc, .slice va vals.length vc, .slice ia kids.length ic]) rfl ?_)
    | (go_at_call 25; refine (hG hE (hk.suf (by repeat (first | exact List.suffix_refl _ | refine List.IsSuffix.trans ?_ (List.suffix_cons _ _)))) (hv.suf (by repeat (first | exact List.suffix_refl _ | refine List.IsSuffix.trans ?_ (List.suffix_cons _ _)))) (hi.suf (by repeat (first | exact List.suffix_refl _ | refine List.IsSuffix.trans ?_ (List.suffix_cons _ _))))).mono ?_; clear hE; rintro e w2 ⟨v, rfl, ⟨g, rfl, hgr⟩, hE⟩; have Hgr := SL.hid hgr; clear hgr; cases g)
    | (go_at_call 26; refine (wakes09_any hE).mono ?_; clear hE; rintro e w3 ⟨v, rfl, rfl, hE9⟩))
  all_goals (try (go_ret; exact ⟨_, rfl, rfl, hE9.tail.tail⟩))
  clear hbd
  obtain ⟨n1, n2, n3, n4, n5⟩ := Hgr.out (by first | exact rfl | trivial)
  simp only at n1 n2 n3
  clear n4 n5 Hgr hG
  have bk : keys.length ≤ 100000 := by omega
  have bv : vals.length ≤ 100000 := by omega
  have bi : kids.length ≤ 100000 := by omega
  have hOf := fun {l : List HProp} {w : World} (h : Ent l w) a b c => Of_node (leaf := leaf) bk bv bi (ka := ka) (va := va) (ia := ia) (kc := kc) (vc := vc) (ic := ic) h a b c
  have hPut := fun {l : List HProp} {w : World} {k2 v2 i2 : Option Addr} {kd vd id : Nat} (h : Ent l w) a b c => Put_node (kw := kw) (vw := vw) (leaf := leaf) bk bv bi (ka := k2) (va := v2) (ia := i2) (kc := kd) (vc := vd) (ic := id) h a b c
  have Hpu := SL.hid (fun (h : putE kw vw ⟨leaf, keys, vals, kids⟩ = 0) => putU_ok h)
  generalize hpue : putU kw vw ⟨leaf, keys, vals, kids⟩ = pu at *
  generalize hpee : putE kw vw ⟨leaf, keys, vals, kids⟩ = pe at *
  clear hpue hpee
  refine wp_region_held_drew (S := (fun w' => ((Instr.loadAt 66 (.pointer (some ⟨b4, 0, none⟩))).run Try.prog w' = .ok (.agg [.bool leaf, .slice ka keys.length kc, .slice va vals.length vc, .slice ia kids.length ic].toArray) w') ∧ ((Instr.loadAt 68 (.pointer (some ⟨b3, 0, none⟩))).run Try.prog w' = .ok (.agg [.int .i64 kw, .int .i64 vw].toArray) w'))) (by kernel_rfl) ⟨(atWm hE.drew (by repeat (first | exact List.Mem.head _ | refine List.Mem.tail _ ?_)) Try.isAgg66 Try.sizeOf66 rfl), (atWm hE.drew (by repeat (first | exact List.Mem.head _ | refine List.Mem.tail _ ?_)) Try.isAgg68 Try.sizeOf68 rfl)⟩ (fun hS => ?_)
  refine takeW 0 ⟨some 27, .load 68 (.tmp 3), 68, "law.go:109", #[], none⟩ ?_ (.inl ⟨by rfl, ?_⟩) hS ?_
  rotate_left
  · (intro w hSw; (try dsimp only at hSw); go_simp; (try with_reducible rfl))
  try simp only [Act.put, sb, s0, sz]
  refine takeW 1 ⟨some 28, .load 66 (.tmp 4), 66, "law.go:109", #[], none⟩ ?_ (.inl ⟨by rfl, ?_⟩) hS ?_
  rotate_left
  · (intro w hSw; (try dsimp only at hSw); go_simp; (try with_reducible rfl))
  try simp only [Act.put, sb, s0, sz]
  refine wpAnyH_ready (rs := [2]) (by kernel_rfl) (by simp) ?_
  refine (AllReadyH.cons (o := { dst := some 29, op := Go.Op.call { callee := Go.Callee.value (Go.Operand.func 34), args := #[Go.Operand.tmp 28], argTypes := #[66] }, type := 70, pos := "law.go:109", after := #[{ on := 1, ground := Go.Ground.data }], guard := none }) rfl (fun K hK => ?_) AllReadyH.nil)
  (go_simp; refine (hOf hE.drew (hk.suf (by repeat (first | exact List.suffix_refl _ | refine List.IsSuffix.trans ?_ (List.suffix_cons _ _)))) (hv.suf (by repeat (first | exact List.suffix_refl _ | refine List.IsSuffix.trans ?_ (List.suffix_cons _ _)))) (hi.suf (by repeat (first | exact List.suffix_refl _ | refine List.IsSuffix.trans ?_ (List.suffix_cons _ _))))).mono ?_; rintro e wg ⟨v, rfl, k2, kd, v2, vd, i2, id, rfl, hEg⟩)
  refine hK.out _ _ ⟨(atWm hEg (by repeat (first | exact List.Mem.head _ | refine List.Mem.tail _ ?_)) Try.isAgg66 Try.sizeOf66 rfl), (atWm hEg (by repeat (first | exact List.Mem.head _ | refine List.Mem.tail _ ?_)) Try.isAgg68 Try.sizeOf68 rfl)⟩ (fun hS => ?_)
  clear hK K
  try simp only [Act.put, sb, s0, sz]
  refine wpAnyH_ready (rs := [3]) (by kernel_rfl) (by simp) ?_
  refine (AllReadyH.cons (o := { dst := some 30, op := Go.Op.call { callee := Go.Callee.value (Go.Operand.func 33), args := #[Go.Operand.tmp 27, Go.Operand.tmp 29], argTypes := #[68, 70] }, type := 52, pos := "law.go:109", after := #[{ on := 0, ground := Go.Ground.data }, { on := 2, ground := Go.Ground.data }, { on := 2, ground := Go.Ground.chain }], guard := none }) rfl (fun K hK => ?_) AllReadyH.nil)
  (go_simp; refine (hPut hEg (fun W h => reads_row h 0 rfl) (fun W h => reads_row h 1 rfl) (fun W h => reads_row h 2 rfl)).mono ?_; rintro e wh ⟨v, rfl, pa, pc, rfl, hEh⟩)
  refine hK.out _ _ ⟨(atWm hEh (by repeat (first | exact List.Mem.head _ | refine List.Mem.tail _ ?_)) Try.isAgg66 Try.sizeOf66 rfl), (atWm hEh (by repeat (first | exact List.Mem.head _ | refine List.Mem.tail _ ?_)) Try.isAgg68 Try.sizeOf68 rfl)⟩ (fun hS => ?_)
  clear hK K
  try simp only [Act.put, sb, s0, sz]
  refine takeW 4 ⟨some 26, .move (.tmp 30), 52, "law.go:109", #[⟨3, .data⟩], none⟩ ?_ (.inl ⟨by rfl, ?_⟩) hS ?_
  rotate_left
  · (intro w hSw; (try dsimp only at hSw); go_simp; (try with_reducible rfl))
  try simp only [Act.put, sb, s0, sz]
  refine takeW 5 ⟨some 31, .extract (.tmp 26) 0, 42, "law.go:109", #[⟨4, .data⟩], none⟩ ?_ (.inl ⟨by rfl, ?_⟩) hS ?_
  rotate_left
  · (intro w hSw; (try dsimp only at hSw); go_simp; (try with_reducible rfl))
  try simp only [Act.put, sb, s0, sz]
  refine takeW 6 ⟨some 32, .extract (.tmp 26) 1, 25, "law.go:109", #[⟨4, .data⟩, { on := 7, ground := Go.Ground.gcOnly Go.Departure.lateStores }], none⟩ ?_ (.inl ⟨by rfl, ?_⟩) hS ?_
  rotate_left
  · (intro w hSw; (try dsimp only at hSw); go_simp; (try with_reducible rfl))
  try simp only [Act.put, sb, s0, sz]
  refine takeW 7 ⟨some 7, .assign (.tmp 31), 42, "law.go:109", #[⟨5, .data⟩, ⟨3, .chain⟩, ⟨0, .phase⟩, ⟨1, .phase⟩, ⟨2, .phase⟩, ⟨3, .phase⟩, ⟨4, .phase⟩, ⟨5, .phase⟩, { on := 6, ground := Go.Ground.textOnly Go.Departure.lateStores }], none⟩ ?_ (.inl ⟨by rfl, ?_⟩) hS ?_
  rotate_left
  · (intro w hSw; (try dsimp only at hSw); go_simp; (try with_reducible rfl))
  try simp only [Act.put, sb, s0, sz]
  refine takeW 8 ⟨some 8, .assign (.tmp 32), 25, "law.go:109", #[⟨6, .data⟩, ⟨7, .chain⟩, ⟨0, .phase⟩, ⟨1, .phase⟩, ⟨2, .phase⟩, ⟨3, .phase⟩, ⟨4, .phase⟩, ⟨5, .phase⟩, ⟨6, .phase⟩, ⟨7, .phase⟩], none⟩ ?_ (.inl ⟨by rfl, ?_⟩) hS ?_
  rotate_left
  · (intro w hSw; (try dsimp only at hSw); go_simp; (try with_reducible rfl))
  try simp only [Act.put, sb, s0, sz]
  refine wpAnyH_done (by kernel_rfl) ?_ _
  clear hPut hE
  cases hpe : (pe == 0) with
  | false =>
    replace hEh : Ent (ndB b4 66 leaf keys vals kids ka va ia kc vc ic :: shB b3 68 kw vw :: l) _ := hEh.cut 4 rfl
    clear Hpu hOf
    cases hee : (errN kw vw b == 0) with
    | false =>
      have hee' : (errN kw vw b != 0) = true := by simp only [bne, hee]; rfl
      obtain ⟨z1, z2⟩ := take_not (kw := kw) (vw := vw) (b := b) (by simpa using hee)
      have hT2 : ∀ {l : List HProp} {w : World}, Ent l w → Knows l (reads (.slice ab b.length cb) b.length (bvals b)) → Calls Try.prog 39 #[.agg #[.int .i64 kw, .int .i64 vw], .slice ab b.length cb] w (Ret fun v w' => ∃ ka kc va vc ia ic, v = .tuple #[.agg #[.bool false, .slice ka 0 kc, .slice va 0 vc, .slice ia 0 ic], .int .i64 (errN kw vw b)] ∧ Ent (rowS ka kc [] :: rowS va vc [] :: rowI ia ic [] :: l) w') := fun h a => by
        refine (hT h a).mono ?_
        rintro e w' ⟨v, rfl, t1, t2, t3, t4, t5, t6, rfl, hE'⟩
        rw [z1] at hE'
        rw [z1]
        exact ⟨_, rfl, t1, t2, t3, t4, t5, t6, rfl, hE'⟩
      have hM := fun {l : List HProp} {w : World} (h : Ent l w) => May_shape (kw := kw) (vw := vw) h
      have hzz : ((errN kw vw b == 2) == !rightN kw vw) = true := by rw [z2]; simp
      generalize errN kw vw b = ee at *
      generalize rightN kw vw = rr at *
      clear hT z1 z2
      go_wp2_with (first
        | go_skip
        | ((with_reducible (show Go.wpList _ _ _ (Go.Oper.mk _ (.load 68 _) _ _ _ _ :: _) _ _)); refine wpl_loadW hEh 1 rfl rfl rfl rfl Try.isAgg68 Try.sizeOf68 (xs := [.int .i64 kw, .int .i64 vw]) rfl ?_)
        | ((with_reducible (show Go.wpList _ _ _ (Go.Oper.mk _ (.load 63 _) _ _ _ _ :: _) _ _)); refine wpl_load1 hEh 0 rfl rfl rfl rfl (by simp [go_sem]) rfl ?_)
        | (go_at_call 39; refine (hT2 hEh (hkb.suf (by repeat (first | exact List.suffix_refl _ | refine List.IsSuffix.trans ?_ (List.suffix_cons _ _))))).mono ?_; clear hEh; rintro e wt ⟨v, rfl, t1, t2, t3, t4, t5, t6, rfl, hEt⟩)
        | ((with_reducible (show Go.wpList _ _ _ (Go.Oper.mk _ (.alloc 70) _ _ _ _ :: _) _ _)); refine wpl_alloc hEt rfl rfl (by simp [go_sem]; rfl) ?_; clear hEt; intro b14 w hEu; simp only [Act.eval, Act.put, List.setIfInBounds_toArray, List.set_cons_zero, List.set_cons_succ, getD_lit, List.getD_cons_succ, List.getD_cons_zero, Value.cells] at hEu)
        | ((with_reducible (show Go.wpList _ _ _ (Go.Oper.mk _ (.store _ _ _) _ _ _ _ :: _) _ _)); refine wpl_storeW hEu 0 rfl rfl rfl (xs := [.bool false, .slice t1 0 t2, .slice t3 0 t4, .slice t5 0 t6]) rfl rfl Try.sizeOf70 rfl (by simp [Value.oneCell']) rfl ?_; clear hEu; intro w hEv; simp only [List.set_cons_zero, List.set_cons_succ] at hEv)
        | ((with_reducible (show Go.wpList _ _ _ (Go.Oper.mk _ (.load 68 _) _ _ _ _ :: _) _ _)); refine wpl_loadW hEv 5 rfl rfl rfl rfl Try.isAgg68 Try.sizeOf68 (xs := [.int .i64 kw, .int .i64 vw]) rfl ?_)
        | (go_at_call 27; refine (hM hEv).mono ?_; clear hEv; rintro e wv ⟨v, rfl, rfl, hEv⟩)
        | ((with_reducible (show Go.wpList _ _ _ (Go.Oper.mk _ (.load 63 _) _ _ _ _ :: _) _ _)); refine wpl_load1 hEv 0 rfl rfl rfl rfl (by simp [go_sem]) rfl ?_)
        | ((with_reducible (show Go.wpList _ _ _ (Go.Oper.mk _ (.load 64 _) _ _ _ _ :: _) _ _)); refine wpl_load1 hEv 0 rfl rfl rfl rfl (by simp [go_sem]) rfl ?_)
        | (go_at_call 26; refine (wakes09_any hEv).mono ?_; clear hEv; rintro e ww ⟨v, rfl, rfl, hEw⟩))
      go_ret
      exact ⟨_, rfl, rfl, hEw.cut 6 rfl⟩
    | true =>
      have he0 : errN kw vw b = 0 := by simpa using hee
      obtain ⟨y1, y2⟩ := take_ok he0
      obtain ⟨y3, y4⟩ := putE_zero y1
      obtain ⟨u1, u2, u3⟩ := nodeR_bounds he0
      rw [y2] at y4
      have hP2 := fun {l : List HProp} {w : World} {k2 v2 i2 : Option Addr} {kd vd id : Nat} (h : Ent l w) x1 x2 x3 => Put_node (kw := kw) (vw := vw) (leaf := (resN kw vw b).leaf) (keys := (resN kw vw b).keys) (vals := (resN kw vw b).vals) (kids := (resN kw vw b).kids) (by omega) (by omega) (by omega) (ka := k2) (va := v2) (ia := i2) (kc := kd) (vc := vd) (ic := id) h x1 x2 x3
      have hen : (⟨(resN kw vw b).leaf, (resN kw vw b).keys, (resN kw vw b).vals, (resN kw vw b).kids⟩ : Nd) = resN kw vw b := rfl
      rw [hen, y3, y4] at hP2
      have hT2 : ∀ {l : List HProp} {w : World}, Ent l w → Knows l (reads (.slice ab b.length cb) b.length (bvals b)) → Calls Try.prog 39 #[.agg #[.int .i64 kw, .int .i64 vw], .slice ab b.length cb] w (Ret fun v w' => ∃ ka kc va vc ia ic, v = .tuple #[.agg #[.bool (resN kw vw b).leaf, .slice ka (resN kw vw b).keys.length kc, .slice va (resN kw vw b).vals.length vc, .slice ia (resN kw vw b).kids.length ic], .int .i64 0] ∧ Ent (rowS ka kc (resN kw vw b).keys :: rowS va vc (resN kw vw b).vals :: rowI ia ic (resN kw vw b).kids :: l) w') := fun h a => by
        refine (hT h a).mono ?_
        rintro e w' ⟨v, rfl, t1, t2, t3, t4, t5, t6, rfl, hE'⟩
        rw [he0]
        exact ⟨_, rfl, t1, t2, t3, t4, t5, t6, rfl, hE'⟩
      clear hT hen y1 y2 y3 y4 u1 u2 u3 hee he0
      generalize (resN kw vw b).leaf = rl at *
      generalize (resN kw vw b).keys = rk at *
      generalize (resN kw vw b).vals = rv at *
      generalize (resN kw vw b).kids = ri at *
      go_wp2_with (first
        | go_skip
        | ((with_reducible (show Go.wpList _ _ _ (Go.Oper.mk _ (.load 68 _) _ _ _ _ :: _) _ _)); refine wpl_loadW hEh 1 rfl rfl rfl rfl Try.isAgg68 Try.sizeOf68 (xs := [.int .i64 kw, .int .i64 vw]) rfl ?_)
        | ((with_reducible (show Go.wpList _ _ _ (Go.Oper.mk _ (.load 63 _) _ _ _ _ :: _) _ _)); refine wpl_load1 hEh 0 rfl rfl rfl rfl (by simp [go_sem]) rfl ?_)
        | (go_at_call 39; refine (hT2 hEh (hkb.suf (by repeat (first | exact List.suffix_refl _ | refine List.IsSuffix.trans ?_ (List.suffix_cons _ _))))).mono ?_; clear hEh; rintro e wt ⟨v, rfl, t1, t2, t3, t4, t5, t6, rfl, hEt⟩)
        | ((with_reducible (show Go.wpList _ _ _ (Go.Oper.mk _ (.alloc 70) _ _ _ _ :: _) _ _)); refine wpl_alloc hEt rfl rfl (by simp [go_sem]; rfl) ?_; clear hEt; intro b14 w hEu; simp only [Act.eval, Act.put, List.setIfInBounds_toArray, List.set_cons_zero, List.set_cons_succ, getD_lit, List.getD_cons_succ, List.getD_cons_zero, Value.cells] at hEu)
        | ((with_reducible (show Go.wpList _ _ _ (Go.Oper.mk _ (.store _ _ _) _ _ _ _ :: _) _ _)); refine wpl_storeW hEu 0 rfl rfl rfl (xs := [.bool rl, .slice t1 rk.length t2, .slice t3 rv.length t4, .slice t5 ri.length t6]) rfl rfl Try.sizeOf70 rfl (by simp [Value.oneCell']) rfl ?_; clear hEu; intro w hEv; simp only [List.set_cons_zero, List.set_cons_succ] at hEv)
        | ((with_reducible (show Go.wpList _ _ _ (Go.Oper.mk _ (.load 68 _) _ _ _ _ :: _) _ _)); refine wpl_loadW hEv 5 rfl rfl rfl rfl Try.isAgg68 Try.sizeOf68 (xs := [.int .i64 kw, .int .i64 vw]) rfl ?_)
        | ((with_reducible (show Go.wpList _ _ _ (Go.Oper.mk _ (.load 70 _) _ _ _ _ :: _) _ _)); refine wpl_loadW hEv 0 rfl rfl rfl rfl Try.isAgg70 Try.sizeOf70 (xs := [.bool rl, .slice t1 rk.length t2, .slice t3 rv.length t4, .slice t5 ri.length t6]) rfl ?_)
        | (go_at_call 33; refine (hP2 hEv (fun W h => reads_row h 1 rfl) (fun W h => reads_row h 2 rfl) (fun W h => reads_row h 3 rfl)).mono ?_; clear hEv; rintro e wx ⟨v, rfl, pa, pc, rfl, hEx⟩)
        | ((with_reducible (show Go.wpList _ _ _ (Go.Oper.mk _ (.convert _ _ (.tmp 127)) _ _ _ _ :: _) _ _)); refine wpl_bytesStr (bs := b) rfl rfl rfl Try.underlying42 Try.underlying5 Try.underlying9 (reads_row hEx 0 rfl) rfl ?_)
        | ((with_reducible (show Go.wpList _ _ _ (Go.Oper.mk _ (.convert _ _ (.tmp 129)) _ _ _ _ :: _) _ _)); refine wpl_bytesStr (bs := b) rfl rfl rfl Try.underlying42 Try.underlying5 Try.underlying9 (hkb _ (hEx.suf (by repeat (first | exact List.suffix_refl _ | refine List.IsSuffix.trans ?_ (List.suffix_cons _ _))))) rfl ?_)
        | (go_at_call 26; refine (wakes09_any hEx).mono ?_; clear hEx; rintro e ww ⟨v, rfl, rfl, hEw⟩))
      go_ret
      exact ⟨_, rfl, rfl, hEw.cut 7 rfl⟩
  | true =>
    obtain rfl : pe = 0 := by simpa using hpe
    obtain ⟨hmay, hpu⟩ := Hpu.out rfl
    have hlen : pu.length = 512 := by rw [hpu]; exact page_len hmay
    have Hlen := SL.hid hlen
    have Hr := SL.hid (may_rising hmay)
    obtain ⟨r1, r2⟩ := put_take hmay
    rw [← hpu] at r1 r2
    have hT3 : ∀ {l : List HProp} {w : World}, Ent l w → Knows l (reads (.slice pa pu.length pc) pu.length (bvals pu)) → Calls Try.prog 39 #[.agg #[.int .i64 kw, .int .i64 vw], .slice pa pu.length pc] w (Ret fun v w' => ∃ ka kc va vc ia ic, v = .tuple #[.agg #[.bool leaf, .slice ka keys.length kc, .slice va vals.length vc, .slice ia kids.length ic], .int .i64 0] ∧ Ent (rowS ka kc keys :: rowS va vc vals :: rowI ia ic kids :: l) w') := fun h a => by
      refine (Take_node (kw := kw) (vw := vw) (show pu.length ≤ 100000 by omega) h a).mono ?_
      rintro e w' ⟨v, rfl, t1, t2, t3, t4, t5, t6, rfl, hE'⟩
      rw [r1] at hE'
      rw [r1, r2]
      exact ⟨_, rfl, t1, t2, t3, t4, t5, t6, rfl, hE'⟩
    clear hpe hpu hlen hmay r1 r2 Hpu
    have hSm := fun {l : List HProp} {w : World} {ka va ia k2 v2 i2 : Option Addr} {kc vc ic kd vd id : Nat} (h : Ent l w) x1 x2 x3 x4 x5 x6 => Same_node (leaf := leaf) (keys := keys) (vals := vals) (kids := kids) bk bv bi (ka := ka) (va := va) (ia := ia) (kc := kc) (vc := vc) (ic := ic) (k2 := k2) (v2 := v2) (i2 := i2) (kd := kd) (vd := vd) (id := id) h x1 x2 x3 x4 x5 x6
    have hl512 : ((pu.length : Int) != 512) = false := by rw [Hlen.out]; rfl
    go_wp2_with (first
      | go_skip
      | ((with_reducible (show Go.wpList _ _ _ (Go.Oper.mk _ (.load 68 _) _ _ _ _ :: _) _ _)); refine wpl_loadW hEh 5 rfl rfl rfl rfl Try.isAgg68 Try.sizeOf68 (xs := [.int .i64 kw, .int .i64 vw]) rfl ?_)
      | (go_at_call 39; refine (hT3 hEh (fun W h => reads_row h 0 rfl)).mono ?_; clear hEh; rintro e wi ⟨v, rfl, k3, ke, v3, ve, i3, ie, rfl, hEi⟩)
      | ((with_reducible (show Go.wpList _ _ _ (Go.Oper.mk _ (.alloc 70) _ _ _ _ :: _) _ _)); refine wpl_alloc hEi rfl rfl (by simp [go_sem]; rfl) ?_; clear hEi; intro b9 w hEj; simp only [Act.eval, Act.put, List.setIfInBounds_toArray, List.set_cons_zero, List.set_cons_succ, getD_lit, List.getD_cons_succ, List.getD_cons_zero, Value.cells] at hEj)
      | ((with_reducible (show Go.wpList _ _ _ (Go.Oper.mk _ (.store _ _ _) _ _ _ _ :: _) _ _)); refine wpl_storeW hEj 0 rfl rfl rfl (xs := [.bool leaf, .slice k3 keys.length ke, .slice v3 vals.length ve, .slice i3 kids.length ie]) rfl rfl Try.sizeOf70 rfl (by simp [Value.oneCell']) rfl ?_; clear hEj; intro w hEk; simp only [List.set_cons_zero, List.set_cons_succ] at hEk))
    refine wp_region_held_drew (S := (fun w' => ((Instr.loadAt 66 (.pointer (some ⟨b4, 0, none⟩))).run Try.prog w' = .ok (.agg [.bool leaf, .slice ka keys.length kc, .slice va vals.length vc, .slice ia kids.length ic].toArray) w') ∧ ((Instr.loadAt 70 (.pointer (some ⟨b9, 0, none⟩))).run Try.prog w' = .ok (.agg [.bool leaf, .slice k3 keys.length ke, .slice v3 vals.length ve, .slice i3 kids.length ie].toArray) w'))) (by kernel_rfl) ⟨(atWm hEk.drew (by repeat (first | exact List.Mem.head _ | refine List.Mem.tail _ ?_)) Try.isAgg66 Try.sizeOf66 rfl), (atWm hEk.drew (by repeat (first | exact List.Mem.head _ | refine List.Mem.tail _ ?_)) Try.isAgg70 Try.sizeOf70 rfl)⟩ (fun hS => ?_)
    refine takeW 0 ⟨some 41, .move (.tmp 10), 25, "law.go:112", #[], none⟩ ?_ (.inl ⟨by rfl, ?_⟩) hS ?_
    rotate_left
    · (intro w hSw; (try dsimp only at hSw); go_simp; (try with_reducible rfl))
    try simp only [Act.put, sb, s0, sz]
    refine takeW 1 ⟨some 42, .binOp .neq 25 (.tmp 41) (.const (.int .i64 0)) 25, 4, "law.go:112", #[⟨0, .data⟩], none⟩ ?_ (.inl ⟨by rfl, ?_⟩) hS ?_
    rotate_left
    · (intro w hSw; (try dsimp only at hSw); go_simp; (try with_reducible rfl))
    try simp only [Act.put, sb, s0, sz]
    refine takeW 2 ⟨some 43, .move (.tmp 42), 4, "law.go:112", #[⟨1, .data⟩], none⟩ ?_ (.inl ⟨by rfl, ?_⟩) hS ?_
    rotate_left
    · (intro w hSw; (try dsimp only at hSw); go_simp; (try with_reducible rfl))
    try simp only [Act.put, sb, s0, sz]
    refine takeW 3 ⟨some 44, .load 70 (.tmp 9), 70, "law.go:112", #[⟨2, .guard⟩], some (2, false)⟩ ?_ (.inl ⟨by rfl, ?_⟩) hS ?_
    rotate_left
    · (intro w hSw; (try dsimp only at hSw); go_simp; (try with_reducible rfl))
    try simp only [Act.put, sb, s0, sz]
    refine takeW 4 ⟨some 45, .load 66 (.tmp 4), 66, "law.go:112", #[⟨2, .guard⟩], some (2, false)⟩ ?_ (.inl ⟨by rfl, ?_⟩) hS ?_
    rotate_left
    · (intro w hSw; (try dsimp only at hSw); go_simp; (try with_reducible rfl))
    try simp only [Act.put, sb, s0, sz]
    refine wpAnyH_ready (rs := [5]) (by kernel_rfl) (by simp) ?_
    refine (AllReadyH.cons (o := { dst := some 46, op := Go.Op.call { callee := Go.Callee.value (Go.Operand.func 34), args := #[Go.Operand.tmp 45], argTypes := #[66] }, type := 70, pos := "law.go:112", after := #[{ on := 4, ground := Go.Ground.data }, { on := 2, ground := Go.Ground.chain }, { on := 2, ground := Go.Ground.guard }], guard := some (2, false) }) rfl (fun K hK => ?_) AllReadyH.nil)
    (go_simp; refine (hOf hEk.drew (hk.suf (by repeat (first | exact List.suffix_refl _ | refine List.IsSuffix.trans ?_ (List.suffix_cons _ _)))) (hv.suf (by repeat (first | exact List.suffix_refl _ | refine List.IsSuffix.trans ?_ (List.suffix_cons _ _)))) (hi.suf (by repeat (first | exact List.suffix_refl _ | refine List.IsSuffix.trans ?_ (List.suffix_cons _ _))))).mono ?_; rintro e wl ⟨v, rfl, k4, kf, v4, vf, i4, jf, rfl, hEl⟩)
    refine hK.out _ _ ⟨(atWm hEl (by repeat (first | exact List.Mem.head _ | refine List.Mem.tail _ ?_)) Try.isAgg66 Try.sizeOf66 rfl), (atWm hEl (by repeat (first | exact List.Mem.head _ | refine List.Mem.tail _ ?_)) Try.isAgg70 Try.sizeOf70 rfl)⟩ (fun hS => ?_)
    clear hK K
    try simp only [Act.put, sb, s0, sz]
    refine wpAnyH_ready (rs := [6]) (by kernel_rfl) (by simp) ?_
    refine (AllReadyH.cons (o := { dst := some 47, op := Go.Op.call { callee := Go.Callee.value (Go.Operand.func 40), args := #[Go.Operand.tmp 44, Go.Operand.tmp 46], argTypes := #[70, 70] }, type := 4, pos := "law.go:112", after := #[{ on := 3, ground := Go.Ground.data }, { on := 5, ground := Go.Ground.data }, { on := 5, ground := Go.Ground.chain }, { on := 2, ground := Go.Ground.guard }], guard := some (2, false) }) rfl (fun K hK => ?_) AllReadyH.nil)
    (go_simp; refine (hSm hEl (fun W h => reads_row h 4 rfl) (fun W h => reads_row h 5 rfl) (fun W h => reads_row h 6 rfl) (fun W h => reads_row h 0 rfl) (fun W h => reads_row h 1 rfl) (fun W h => reads_row h 2 rfl)).mono ?_; rintro e wm ⟨v, rfl, rfl, hEm⟩)
    refine hK.out _ _ ⟨(atWm hEm (by repeat (first | exact List.Mem.head _ | refine List.Mem.tail _ ?_)) Try.isAgg66 Try.sizeOf66 rfl), (atWm hEm (by repeat (first | exact List.Mem.head _ | refine List.Mem.tail _ ?_)) Try.isAgg70 Try.sizeOf70 rfl)⟩ (fun hS => ?_)
    clear hK K
    try simp only [Act.put, sb, s0, sz]
    refine takeW 7 ⟨some 48, .unOp Go.UnOp.not 4 (.tmp 47), 4, "law.go:112", #[⟨6, .data⟩, ⟨2, .guard⟩], some (2, false)⟩ ?_ (.inl ⟨by rfl, ?_⟩) hS ?_
    rotate_left
    · (intro w hSw; (try dsimp only at hSw); go_simp; (try with_reducible rfl))
    try simp only [Act.put, sb, s0, sz]
    refine takeW 8 ⟨some 49, .pick (.tmp 43) (.const (.bool true)) (.tmp 48), 4, "law.go:112", #[⟨2, .data⟩, ⟨7, .data⟩], none⟩ ?_ (.inl ⟨by rfl, ?_⟩) hS ?_
    rotate_left
    · (intro w hSw; (try dsimp only at hSw); go_simp; (try with_reducible rfl))
    try simp only [Act.put, sb, s0, sz]
    refine takeW 9 ⟨some 50, .move (.tmp 49), 4, "law.go:112", #[⟨8, .data⟩, ⟨6, .chain⟩], none⟩ ?_ (.inl ⟨by rfl, ?_⟩) hS ?_
    rotate_left
    · (intro w hSw; (try dsimp only at hSw); go_simp; (try with_reducible rfl))
    try simp only [Act.put, sb, s0, sz]
    refine takeW 10 ⟨some 51, .move (.tmp 7), 42, "law.go:112", #[⟨9, .guard⟩], some (9, false)⟩ ?_ (.inl ⟨by rfl, ?_⟩) hS ?_
    rotate_left
    · (intro w hSw; (try dsimp only at hSw); go_simp; (try with_reducible rfl))
    try simp only [Act.put, sb, s0, sz]
    refine takeW 11 ⟨some 52, .call { callee := .builtin .len, args := #[.tmp 51], argTypes := #[42] }, 3, "law.go:112", #[⟨10, .data⟩, ⟨9, .guard⟩], some (9, false)⟩ ?_ (.inl ⟨by rfl, ?_⟩) hS ?_
    rotate_left
    · (intro w hSw; (try dsimp only at hSw); go_simp; (try with_reducible rfl))
    try simp only [Act.put, sb, s0, sz]
    refine takeW 12 ⟨some 53, .binOp .neq 3 (.tmp 52) (.const (.int .i64 512)) 3, 4, "law.go:112", #[⟨11, .data⟩, ⟨9, .guard⟩], some (9, false)⟩ ?_ (.inl ⟨by rfl, ?_⟩) hS ?_
    rotate_left
    · (intro w hSw; (try dsimp only at hSw); go_simp; (try with_reducible rfl))
    try simp only [Act.put, sb, s0, sz]
    refine takeW 13 ⟨some 54, .pick (.tmp 50) (.const (.bool true)) (.tmp 53), 4, "law.go:112", #[⟨9, .data⟩, ⟨12, .data⟩], none⟩ ?_ (.inl ⟨by rfl, ?_⟩) hS ?_
    rotate_left
    · (intro w hSw; (try dsimp only at hSw); go_simp; (try with_reducible rfl))
    try simp only [Act.put, sb, s0, sz]
    refine wpAnyH_done (by kernel_rfl) ?_ _
    clear hEk hEl hT3 hSm hOf hl512
    replace hEm : Ent (ndB b9 70 leaf keys vals kids k3 v3 i3 ke ve ie :: rowS k3 ke keys :: ndB b4 66 leaf keys vals kids ka va ia kc vc ic :: shB b3 68 kw vw :: l) _ := ((((((hEm.cut 3 rfl).erase 7).erase 6).erase 5).erase 4).erase 3).erase 2
    go_wp2
    go_loopw [11, 12, 13] (fun i _ _ wr => CntRel keys.length (ndB b9 70 leaf keys vals kids k3 v3 i3 ke ve ie :: rowS k3 ke keys :: ndB b4 66 leaf keys vals kids ka va ia kc vc ic :: shB b3 68 kw vw :: l) i wr) (fun i _ _ _ => keys.length - (intOf i).toNat)
    case atStart => exact ⟨0, Nat.zero_le _, rfl, hEm⟩
    case round =>
      clear hEm
      obtain ⟨k, hkl, rfl, hE⟩ := hrel
      by_cases hlt : k < keys.length
      · obtain ⟨bb, bo, rfl, _⟩ := reads_map (hk _ (hE.suf (by repeat (first | exact List.suffix_refl _ | refine List.IsSuffix.trans ?_ (List.suffix_cons _ _))))) hlt
        have La := SL.hid (fun W (hW : Ent l W) => show W.cell? ⟨bb, bo + k, none⟩ = some (strv keys[k]) from by
          obtain ⟨b', o', e, h⟩ := reads_map (hk _ hW) hlt
          cases e
          exact h)
        have hF := fun {l : List HProp} {w : World} {k3 : Option Addr} {ke : Nat} {v2 v3 : Value} (h : Ent l w) (a : Knows l (reads (.slice k3 keys.length ke) keys.length (keys.map strv))) => Find_any (leaf := leaf) (v2 := v2) (v3 := v3) bk Hr.out keys[k] h a
        have hD := fun {l : List HProp} {w : World} {k3 : Option Addr} {ke : Nat} {v2 v3 : Value} (h : Ent l w) (a : Knows l (reads (.slice k3 keys.length ke) keys.length (keys.map strv))) => Down_any (leaf := leaf) (v2 := v2) (v3 := v3) bk Hr.out keys[k] h a
        obtain ⟨m1, m2⟩ := place_of_mem Hr.out hlt
        have m3 : downOf keys keys[k] = k + 1 := by rw [downOf, m1, m2]; rfl
        rw [m1, m2] at hF
        rw [m3] at hD
        clear m1 m2 m3
        generalize keys[k] = x at *
        have hw1 : IntKind.i64.wrap ((k : Int) + 1) = (k : Int) + 1 := wrap_id (by omega)
        have hkk : (((k + 1 : Nat) : Int)) = (k : Int) + 1 := by omega
        rw [hkk] at hD
        go_wp2_with (first | go_skip | ((with_reducible (show Go.wpList _ _ _ (Go.Oper.mk _ (.load _ _) _ _ _ _ :: _) _ _)); refine wpl_load1 hE 2 rfl rfl rfl rfl (by simp [go_sem]) rfl ?_))
        refine wp_region_held_drew (S := (fun w' => ((Instr.loadAt 70 (.pointer (some ⟨b9, 0, none⟩))).run Try.prog w' = .ok (.agg [.bool leaf, .slice k3 keys.length ke, .slice v3 vals.length ve, .slice i3 kids.length ie].toArray) w') ∧ ((Instr.loadAt 63 (.pointer (some ⟨b4, 1, none⟩))).run Try.prog w' = .ok (.slice (some ⟨bb, bo, none⟩) keys.length kc) w') ∧ ((Instr.loadAt 9 (.pointer (some ⟨bb, bo + k, none⟩))).run Try.prog w' = .ok (.string ⟨x.toArray⟩) w'))) (by kernel_rfl) ⟨(atWm hE.drew (by repeat (first | exact List.Mem.head _ | refine List.Mem.tail _ ?_)) Try.isAgg70 Try.sizeOf70 rfl), (atVm hE.drew (by repeat (first | exact List.Mem.head _ | refine List.Mem.tail _ ?_)) (by simp [go_sem]) rfl), (atCell (La.out _ (hE.drew.suf (by repeat (first | exact List.suffix_refl _ | refine List.IsSuffix.trans ?_ (List.suffix_cons _ _))))) (by simp [go_sem]))⟩ (fun hS => ?_)
        refine takeW 0 ⟨some 63, .load 70 (.tmp 9), 70, "law.go:116", #[], none⟩ ?_ (.inl ⟨by rfl, ?_⟩) hS ?_
        rotate_left
        · (intro w hSw; (try dsimp only at hSw); go_simp; (try with_reducible rfl))
        try simp only [Act.put, sb, s0, sz]
        refine takeW 1 ⟨some 64, .fieldAddr 66 (.tmp 4) 1, 0, "law.go:116", #[], none⟩ ?_ (.inl ⟨by rfl, ?_⟩) hS ?_
        rotate_left
        · (intro w hSw; (try dsimp only at hSw); go_simp; (try with_reducible rfl))
        try simp only [Act.put, sb, s0, sz]
        refine takeW 2 ⟨some 65, .load 63 (.tmp 64), 63, "law.go:116", #[⟨1, .data⟩], none⟩ ?_ (.inl ⟨by rfl, ?_⟩) hS ?_
        rotate_left
        · (intro w hSw; (try dsimp only at hSw); go_simp; (try with_reducible rfl))
        try simp only [Act.put, sb, s0, sz]
        refine takeW 3 ⟨some 66, .move (.tmp 11), 3, "law.go:116", #[], none⟩ ?_ (.inl ⟨by rfl, ?_⟩) hS ?_
        rotate_left
        · (intro w hSw; (try dsimp only at hSw); go_simp; (try with_reducible rfl))
        try simp only [Act.put, sb, s0, sz]
        refine takeW 4 ⟨some 67, .indexAddr 63 (.tmp 65) (.tmp 66), 0, "law.go:116", #[⟨2, .data⟩, ⟨3, .data⟩], none⟩ ?_ (.inl ⟨by rfl, ?_⟩) hS ?_
        rotate_left
        · (intro w hSw; (try dsimp only at hSw); go_simp; (try with_reducible rfl))
        try simp only [Act.put, sb, s0, sz]
        refine takeW 5 ⟨some 68, .load 9 (.tmp 67), 9, "law.go:116", #[⟨4, .data⟩], none⟩ ?_ (.inl ⟨by rfl, ?_⟩) hS ?_
        rotate_left
        · (intro w hSw; (try dsimp only at hSw); go_simp; (try with_reducible rfl))
        try simp only [Act.put, sb, s0, sz]
        refine wpAnyH_ready (rs := [6]) (by kernel_rfl) (by simp) ?_
        refine (AllReadyH.cons (o := { dst := some 69, op := Go.Op.call { callee := Go.Callee.value (Go.Operand.func 36), args := #[Go.Operand.tmp 63, Go.Operand.tmp 68], argTypes := #[70, 9] }, type := 72, pos := "law.go:116", after := #[{ on := 0, ground := Go.Ground.data }, { on := 5, ground := Go.Ground.data }], guard := none }) rfl (fun K hK => ?_) AllReadyH.nil)
        (go_simp; refine (hF hE.drew (fun W h => reads_row h 1 rfl)).mono ?_; rintro e wn ⟨v, rfl, rfl, hEn⟩)
        refine hK.out _ _ ⟨(atWm hEn (by repeat (first | exact List.Mem.head _ | refine List.Mem.tail _ ?_)) Try.isAgg70 Try.sizeOf70 rfl), (atVm hEn (by repeat (first | exact List.Mem.head _ | refine List.Mem.tail _ ?_)) (by simp [go_sem]) rfl), (atCell (La.out _ (hEn.suf (by repeat (first | exact List.suffix_refl _ | refine List.IsSuffix.trans ?_ (List.suffix_cons _ _))))) (by simp [go_sem]))⟩ (fun hS => ?_)
        clear hK K
        try simp only [Act.put, sb, s0, sz]
        refine takeW 7 ⟨some 62, .move (.tmp 69), 72, "law.go:116", #[⟨6, .data⟩], none⟩ ?_ (.inl ⟨by rfl, ?_⟩) hS ?_
        rotate_left
        · (intro w hSw; (try dsimp only at hSw); go_simp; (try with_reducible rfl))
        try simp only [Act.put, sb, s0, sz]
        refine takeW 8 ⟨some 70, .extract (.tmp 62) 0, 3, "law.go:116", #[⟨7, .data⟩], none⟩ ?_ (.inl ⟨by rfl, ?_⟩) hS ?_
        rotate_left
        · (intro w hSw; (try dsimp only at hSw); go_simp; (try with_reducible rfl))
        try simp only [Act.put, sb, s0, sz]
        refine takeW 9 ⟨some 71, .extract (.tmp 62) 1, 4, "law.go:116", #[⟨7, .data⟩, { on := 10, ground := Go.Ground.gcOnly Go.Departure.lateStores }], none⟩ ?_ (.inl ⟨by rfl, ?_⟩) hS ?_
        rotate_left
        · (intro w hSw; (try dsimp only at hSw); go_simp; (try with_reducible rfl))
        try simp only [Act.put, sb, s0, sz]
        refine takeW 10 ⟨some 12, .assign (.tmp 70), 3, "law.go:116", #[⟨8, .data⟩, ⟨6, .chain⟩, ⟨0, .phase⟩, ⟨1, .phase⟩, ⟨2, .phase⟩, ⟨3, .phase⟩, ⟨4, .phase⟩, ⟨5, .phase⟩, ⟨6, .phase⟩, ⟨7, .phase⟩, ⟨8, .phase⟩, { on := 9, ground := Go.Ground.textOnly Go.Departure.lateStores }], none⟩ ?_ (.inl ⟨by rfl, ?_⟩) hS ?_
        rotate_left
        · (intro w hSw; (try dsimp only at hSw); go_simp; (try with_reducible rfl))
        try simp only [Act.put, sb, s0, sz]
        refine takeW 11 ⟨some 13, .assign (.tmp 71), 4, "law.go:116", #[⟨9, .data⟩, ⟨10, .chain⟩, ⟨0, .phase⟩, ⟨1, .phase⟩, ⟨2, .phase⟩, ⟨3, .phase⟩, ⟨4, .phase⟩, ⟨5, .phase⟩, ⟨6, .phase⟩, ⟨7, .phase⟩, ⟨8, .phase⟩, ⟨9, .phase⟩, ⟨10, .phase⟩], none⟩ ?_ (.inl ⟨by rfl, ?_⟩) hS ?_
        rotate_left
        · (intro w hSw; (try dsimp only at hSw); go_simp; (try with_reducible rfl))
        try simp only [Act.put, sb, s0, sz]
        refine wpAnyH_done (by kernel_rfl) ?_ _
        go_wp2
        refine wp_region_held_drew (S := (fun w' => ((Instr.loadAt 70 (.pointer (some ⟨b9, 0, none⟩))).run Try.prog w' = .ok (.agg [.bool leaf, .slice k3 keys.length ke, .slice v3 vals.length ve, .slice i3 kids.length ie].toArray) w') ∧ ((Instr.loadAt 63 (.pointer (some ⟨b4, 1, none⟩))).run Try.prog w' = .ok (.slice (some ⟨bb, bo, none⟩) keys.length kc) w') ∧ ((Instr.loadAt 9 (.pointer (some ⟨bb, bo + k, none⟩))).run Try.prog w' = .ok (.string ⟨x.toArray⟩) w'))) (by kernel_rfl) ⟨(atWm hEn.drew (by repeat (first | exact List.Mem.head _ | refine List.Mem.tail _ ?_)) Try.isAgg70 Try.sizeOf70 rfl), (atVm hEn.drew (by repeat (first | exact List.Mem.head _ | refine List.Mem.tail _ ?_)) (by simp [go_sem]) rfl), (atCell (La.out _ (hEn.drew.suf (by repeat (first | exact List.suffix_refl _ | refine List.IsSuffix.trans ?_ (List.suffix_cons _ _))))) (by simp [go_sem]))⟩ (fun hS => ?_)
        refine takeW 0 ⟨some 72, .move (.tmp 12), 3, "law.go:117", #[], none⟩ ?_ (.inl ⟨by rfl, ?_⟩) hS ?_
        rotate_left
        · (intro w hSw; (try dsimp only at hSw); go_simp; (try with_reducible rfl))
        try simp only [Act.put, sb, s0, sz]
        refine takeW 1 ⟨some 73, .move (.tmp 11), 3, "law.go:117", #[], none⟩ ?_ (.inl ⟨by rfl, ?_⟩) hS ?_
        rotate_left
        · (intro w hSw; (try dsimp only at hSw); go_simp; (try with_reducible rfl))
        try simp only [Act.put, sb, s0, sz]
        refine takeW 2 ⟨some 74, .binOp .neq 3 (.tmp 72) (.tmp 73) 3, 4, "law.go:117", #[⟨0, .data⟩, ⟨1, .data⟩], none⟩ ?_ (.inl ⟨by rfl, ?_⟩) hS ?_
        rotate_left
        · (intro w hSw; (try dsimp only at hSw); go_simp; (try with_reducible rfl))
        try simp only [Act.put, sb, s0, sz]
        refine takeW 3 ⟨some 75, .move (.tmp 74), 4, "law.go:117", #[⟨2, .data⟩], none⟩ ?_ (.inl ⟨by rfl, ?_⟩) hS ?_
        rotate_left
        · (intro w hSw; (try dsimp only at hSw); go_simp; (try with_reducible rfl))
        try simp only [Act.put, sb, s0, sz]
        refine takeW 4 ⟨some 76, .move (.tmp 13), 4, "law.go:117", #[⟨3, .guard⟩], some (3, false)⟩ ?_ (.inl ⟨by rfl, ?_⟩) hS ?_
        rotate_left
        · (intro w hSw; (try dsimp only at hSw); go_simp; (try with_reducible rfl))
        try simp only [Act.put, sb, s0, sz]
        refine takeW 5 ⟨some 77, .unOp Go.UnOp.not 4 (.tmp 76), 4, "law.go:117", #[⟨4, .data⟩, ⟨3, .guard⟩], some (3, false)⟩ ?_ (.inl ⟨by rfl, ?_⟩) hS ?_
        rotate_left
        · (intro w hSw; (try dsimp only at hSw); go_simp; (try with_reducible rfl))
        try simp only [Act.put, sb, s0, sz]
        refine takeW 6 ⟨some 78, .pick (.tmp 75) (.const (.bool true)) (.tmp 77), 4, "law.go:117", #[⟨3, .data⟩, ⟨5, .data⟩], none⟩ ?_ (.inl ⟨by rfl, ?_⟩) hS ?_
        rotate_left
        · (intro w hSw; (try dsimp only at hSw); go_simp; (try with_reducible rfl))
        try simp only [Act.put, sb, s0, sz]
        refine takeW 7 ⟨some 79, .move (.tmp 78), 4, "law.go:117", #[⟨6, .data⟩, ⟨3, .chain⟩], none⟩ ?_ (.inl ⟨by rfl, ?_⟩) hS ?_
        rotate_left
        · (intro w hSw; (try dsimp only at hSw); go_simp; (try with_reducible rfl))
        try simp only [Act.put, sb, s0, sz]
        refine takeW 8 ⟨some 80, .load 70 (.tmp 9), 70, "law.go:117", #[⟨7, .guard⟩], some (7, false)⟩ ?_ (.inl ⟨by rfl, ?_⟩) hS ?_
        rotate_left
        · (intro w hSw; (try dsimp only at hSw); go_simp; (try with_reducible rfl))
        try simp only [Act.put, sb, s0, sz]
        refine takeW 9 ⟨some 81, .fieldAddr 66 (.tmp 4) 1, 0, "law.go:117", #[⟨7, .guard⟩], some (7, false)⟩ ?_ (.inl ⟨by rfl, ?_⟩) hS ?_
        rotate_left
        · (intro w hSw; (try dsimp only at hSw); go_simp; (try with_reducible rfl))
        try simp only [Act.put, sb, s0, sz]
        refine takeW 10 ⟨some 82, .load 63 (.tmp 81), 63, "law.go:117", #[⟨9, .data⟩, ⟨7, .guard⟩], some (7, false)⟩ ?_ (.inl ⟨by rfl, ?_⟩) hS ?_
        rotate_left
        · (intro w hSw; (try dsimp only at hSw); go_simp; (try with_reducible rfl))
        try simp only [Act.put, sb, s0, sz]
        refine takeW 11 ⟨some 83, .move (.tmp 11), 3, "law.go:117", #[⟨7, .guard⟩], some (7, false)⟩ ?_ (.inl ⟨by rfl, ?_⟩) hS ?_
        rotate_left
        · (intro w hSw; (try dsimp only at hSw); go_simp; (try with_reducible rfl))
        try simp only [Act.put, sb, s0, sz]
        refine takeW 12 ⟨some 84, .indexAddr 63 (.tmp 82) (.tmp 83), 0, "law.go:117", #[⟨10, .data⟩, ⟨11, .data⟩, ⟨7, .guard⟩], some (7, false)⟩ ?_ (.inl ⟨by rfl, ?_⟩) hS ?_
        rotate_left
        · (intro w hSw; (try dsimp only at hSw); go_simp; (try with_reducible rfl))
        try simp only [Act.put, sb, s0, sz]
        refine takeW 13 ⟨some 85, .load 9 (.tmp 84), 9, "law.go:117", #[⟨12, .data⟩, ⟨7, .guard⟩], some (7, false)⟩ ?_ (.inl ⟨by rfl, ?_⟩) hS ?_
        rotate_left
        · (intro w hSw; (try dsimp only at hSw); go_simp; (try with_reducible rfl))
        try simp only [Act.put, sb, s0, sz]
        refine takeW 15 ⟨some 87, .move (.tmp 11), 3, "law.go:117", #[⟨7, .guard⟩], some (7, false)⟩ ?_ (.inl ⟨by rfl, ?_⟩) hS ?_
        rotate_left
        · (intro w hSw; (try dsimp only at hSw); go_simp; (try with_reducible rfl))
        try simp only [Act.put, sb, s0, sz]
        refine takeW 16 ⟨some 88, .binOp .add 3 (.tmp 87) (.const (.int .i64 1)) 3, 3, "law.go:117", #[⟨15, .data⟩, ⟨7, .guard⟩], some (7, false)⟩ ?_ (.inl ⟨by rfl, ?_⟩) hS ?_
        rotate_left
        · (intro w hSw; (try dsimp only at hSw); go_simp; (try with_reducible rfl))
        try simp only [Act.put, sb, s0, sz]
        refine wpAnyH_ready (rs := [14]) (by kernel_rfl) (by simp) ?_
        refine (AllReadyH.cons (o := { dst := some 86, op := Go.Op.call { callee := Go.Callee.value (Go.Operand.func 38), args := #[Go.Operand.tmp 80, Go.Operand.tmp 85], argTypes := #[70, 9] }, type := 3, pos := "law.go:117", after := #[{ on := 8, ground := Go.Ground.data }, { on := 13, ground := Go.Ground.data }, { on := 7, ground := Go.Ground.chain }, { on := 7, ground := Go.Ground.guard }], guard := some (7, false) }) rfl (fun K hK => ?_) AllReadyH.nil)
        (go_simp; refine (hD hEn.drew (fun W h => reads_row h 1 rfl)).mono ?_; rintro e wo ⟨v, rfl, rfl, hEo⟩)
        refine hK.out _ _ ⟨(atWm hEo (by repeat (first | exact List.Mem.head _ | refine List.Mem.tail _ ?_)) Try.isAgg70 Try.sizeOf70 rfl), (atVm hEo (by repeat (first | exact List.Mem.head _ | refine List.Mem.tail _ ?_)) (by simp [go_sem]) rfl), (atCell (La.out _ (hEo.suf (by repeat (first | exact List.suffix_refl _ | refine List.IsSuffix.trans ?_ (List.suffix_cons _ _))))) (by simp [go_sem]))⟩ (fun hS => ?_)
        clear hK K
        try simp only [Act.put, sb, s0, sz]
        refine takeW 17 ⟨some 89, .binOp .neq 3 (.tmp 86) (.tmp 88) 3, 4, "law.go:117", #[⟨14, .data⟩, ⟨16, .data⟩, ⟨7, .guard⟩], some (7, false)⟩ ?_ (.inl ⟨by rfl, ?_⟩) hS ?_
        rotate_left
        · (intro w hSw; (try dsimp only at hSw); go_simp; (try with_reducible rfl))
        try simp only [Act.put, sb, s0, sz]
        refine takeW 18 ⟨some 90, .pick (.tmp 79) (.const (.bool true)) (.tmp 89), 4, "law.go:117", #[⟨7, .data⟩, ⟨17, .data⟩], none⟩ ?_ (.inl ⟨by rfl, ?_⟩) hS ?_
        rotate_left
        · (intro w hSw; (try dsimp only at hSw); go_simp; (try with_reducible rfl))
        try simp only [Act.put, sb, s0, sz]
        refine wpAnyH_done (by kernel_rfl) ?_ _
        go_wp2
        go_roundw
        case rel => exact ⟨k + 1, hlt, by first | rfl | simp, hEo⟩
        case measure => simp [intOf] <;> omega
      · have hkd : decide (k < keys.length) = false := decide_eq_false hlt
        clear hlt hkl
        replace hE : Ent (ndB b4 66 leaf keys vals kids ka va ia kc vc ic :: shB b3 68 kw vw :: l) _ := hE.cut 2 rfl
        cases hee : (errN kw vw b == 0) with
        | false =>
          have hee' : (errN kw vw b != 0) = true := by simp only [bne, hee]; rfl
          obtain ⟨z1, z2⟩ := take_not (kw := kw) (vw := vw) (b := b) (by simpa using hee)
          have hT2 : ∀ {l : List HProp} {w : World}, Ent l w → Knows l (reads (.slice ab b.length cb) b.length (bvals b)) → Calls Try.prog 39 #[.agg #[.int .i64 kw, .int .i64 vw], .slice ab b.length cb] w (Ret fun v w' => ∃ ka kc va vc ia ic, v = .tuple #[.agg #[.bool false, .slice ka 0 kc, .slice va 0 vc, .slice ia 0 ic], .int .i64 (errN kw vw b)] ∧ Ent (rowS ka kc [] :: rowS va vc [] :: rowI ia ic [] :: l) w') := fun h a => by
            refine (hT h a).mono ?_
            rintro e w' ⟨v, rfl, t1, t2, t3, t4, t5, t6, rfl, hE'⟩
            rw [z1] at hE'
            rw [z1]
            exact ⟨_, rfl, t1, t2, t3, t4, t5, t6, rfl, hE'⟩
          have hM := fun {l : List HProp} {w : World} (h : Ent l w) => May_shape (kw := kw) (vw := vw) h
          have hzz : ((errN kw vw b == 2) == !rightN kw vw) = true := by rw [z2]; simp
          generalize errN kw vw b = ee at *
          generalize rightN kw vw = rr at *
          clear hT z1 z2
          go_wp2_with (first
            | go_skip
            | ((with_reducible (show Go.wpList _ _ _ (Go.Oper.mk _ (.load 68 _) _ _ _ _ :: _) _ _)); refine wpl_loadW hE 1 rfl rfl rfl rfl Try.isAgg68 Try.sizeOf68 (xs := [.int .i64 kw, .int .i64 vw]) rfl ?_)
            | ((with_reducible (show Go.wpList _ _ _ (Go.Oper.mk _ (.load 63 _) _ _ _ _ :: _) _ _)); refine wpl_load1 hE 0 rfl rfl rfl rfl (by simp [go_sem]) rfl ?_)
            | (go_at_call 39; refine (hT2 hE (hkb.suf (by repeat (first | exact List.suffix_refl _ | refine List.IsSuffix.trans ?_ (List.suffix_cons _ _))))).mono ?_; clear hE; rintro e wt ⟨v, rfl, t1, t2, t3, t4, t5, t6, rfl, hEt⟩)
            | ((with_reducible (show Go.wpList _ _ _ (Go.Oper.mk _ (.alloc 70) _ _ _ _ :: _) _ _)); refine wpl_alloc hEt rfl rfl (by simp [go_sem]; rfl) ?_; clear hEt; intro b14 w hEu; simp only [Act.eval, Act.put, List.setIfInBounds_toArray, List.set_cons_zero, List.set_cons_succ, getD_lit, List.getD_cons_succ, List.getD_cons_zero, Value.cells] at hEu)
            | ((with_reducible (show Go.wpList _ _ _ (Go.Oper.mk _ (.store _ _ _) _ _ _ _ :: _) _ _)); refine wpl_storeW hEu 0 rfl rfl rfl (xs := [.bool false, .slice t1 0 t2, .slice t3 0 t4, .slice t5 0 t6]) rfl rfl Try.sizeOf70 rfl (by simp [Value.oneCell']) rfl ?_; clear hEu; intro w hEv; simp only [List.set_cons_zero, List.set_cons_succ] at hEv)
            | ((with_reducible (show Go.wpList _ _ _ (Go.Oper.mk _ (.load 68 _) _ _ _ _ :: _) _ _)); refine wpl_loadW hEv 5 rfl rfl rfl rfl Try.isAgg68 Try.sizeOf68 (xs := [.int .i64 kw, .int .i64 vw]) rfl ?_)
            | (go_at_call 27; refine (hM hEv).mono ?_; clear hEv; rintro e wv ⟨v, rfl, rfl, hEv⟩)
            | ((with_reducible (show Go.wpList _ _ _ (Go.Oper.mk _ (.load 63 _) _ _ _ _ :: _) _ _)); refine wpl_load1 hEv 0 rfl rfl rfl rfl (by simp [go_sem]) rfl ?_)
            | ((with_reducible (show Go.wpList _ _ _ (Go.Oper.mk _ (.load 64 _) _ _ _ _ :: _) _ _)); refine wpl_load1 hEv 0 rfl rfl rfl rfl (by simp [go_sem]) rfl ?_)
            | (go_at_call 26; refine (wakes09_any hEv).mono ?_; clear hEv; rintro e ww ⟨v, rfl, rfl, hEw⟩))
          go_ret
          exact ⟨_, rfl, rfl, hEw.cut 6 rfl⟩
        | true =>
          have he0 : errN kw vw b = 0 := by simpa using hee
          obtain ⟨y1, y2⟩ := take_ok he0
          obtain ⟨y3, y4⟩ := putE_zero y1
          obtain ⟨u1, u2, u3⟩ := nodeR_bounds he0
          rw [y2] at y4
          have hP2 := fun {l : List HProp} {w : World} {k2 v2 i2 : Option Addr} {kd vd id : Nat} (h : Ent l w) x1 x2 x3 => Put_node (kw := kw) (vw := vw) (leaf := (resN kw vw b).leaf) (keys := (resN kw vw b).keys) (vals := (resN kw vw b).vals) (kids := (resN kw vw b).kids) (by omega) (by omega) (by omega) (ka := k2) (va := v2) (ia := i2) (kc := kd) (vc := vd) (ic := id) h x1 x2 x3
          have hen : (⟨(resN kw vw b).leaf, (resN kw vw b).keys, (resN kw vw b).vals, (resN kw vw b).kids⟩ : Nd) = resN kw vw b := rfl
          rw [hen, y3, y4] at hP2
          have hT2 : ∀ {l : List HProp} {w : World}, Ent l w → Knows l (reads (.slice ab b.length cb) b.length (bvals b)) → Calls Try.prog 39 #[.agg #[.int .i64 kw, .int .i64 vw], .slice ab b.length cb] w (Ret fun v w' => ∃ ka kc va vc ia ic, v = .tuple #[.agg #[.bool (resN kw vw b).leaf, .slice ka (resN kw vw b).keys.length kc, .slice va (resN kw vw b).vals.length vc, .slice ia (resN kw vw b).kids.length ic], .int .i64 0] ∧ Ent (rowS ka kc (resN kw vw b).keys :: rowS va vc (resN kw vw b).vals :: rowI ia ic (resN kw vw b).kids :: l) w') := fun h a => by
            refine (hT h a).mono ?_
            rintro e w' ⟨v, rfl, t1, t2, t3, t4, t5, t6, rfl, hE'⟩
            rw [he0]
            exact ⟨_, rfl, t1, t2, t3, t4, t5, t6, rfl, hE'⟩
          clear hT hen y1 y2 y3 y4 u1 u2 u3 hee he0
          generalize (resN kw vw b).leaf = rl at *
          generalize (resN kw vw b).keys = rk at *
          generalize (resN kw vw b).vals = rv at *
          generalize (resN kw vw b).kids = ri at *
          go_wp2_with (first
            | go_skip
            | ((with_reducible (show Go.wpList _ _ _ (Go.Oper.mk _ (.load 68 _) _ _ _ _ :: _) _ _)); refine wpl_loadW hE 1 rfl rfl rfl rfl Try.isAgg68 Try.sizeOf68 (xs := [.int .i64 kw, .int .i64 vw]) rfl ?_)
            | ((with_reducible (show Go.wpList _ _ _ (Go.Oper.mk _ (.load 63 _) _ _ _ _ :: _) _ _)); refine wpl_load1 hE 0 rfl rfl rfl rfl (by simp [go_sem]) rfl ?_)
            | (go_at_call 39; refine (hT2 hE (hkb.suf (by repeat (first | exact List.suffix_refl _ | refine List.IsSuffix.trans ?_ (List.suffix_cons _ _))))).mono ?_; clear hE; rintro e wt ⟨v, rfl, t1, t2, t3, t4, t5, t6, rfl, hEt⟩)
            | ((with_reducible (show Go.wpList _ _ _ (Go.Oper.mk _ (.alloc 70) _ _ _ _ :: _) _ _)); refine wpl_alloc hEt rfl rfl (by simp [go_sem]; rfl) ?_; clear hEt; intro b14 w hEu; simp only [Act.eval, Act.put, List.setIfInBounds_toArray, List.set_cons_zero, List.set_cons_succ, getD_lit, List.getD_cons_succ, List.getD_cons_zero, Value.cells] at hEu)
            | ((with_reducible (show Go.wpList _ _ _ (Go.Oper.mk _ (.store _ _ _) _ _ _ _ :: _) _ _)); refine wpl_storeW hEu 0 rfl rfl rfl (xs := [.bool rl, .slice t1 rk.length t2, .slice t3 rv.length t4, .slice t5 ri.length t6]) rfl rfl Try.sizeOf70 rfl (by simp [Value.oneCell']) rfl ?_; clear hEu; intro w hEv; simp only [List.set_cons_zero, List.set_cons_succ] at hEv)
            | ((with_reducible (show Go.wpList _ _ _ (Go.Oper.mk _ (.load 68 _) _ _ _ _ :: _) _ _)); refine wpl_loadW hEv 5 rfl rfl rfl rfl Try.isAgg68 Try.sizeOf68 (xs := [.int .i64 kw, .int .i64 vw]) rfl ?_)
            | ((with_reducible (show Go.wpList _ _ _ (Go.Oper.mk _ (.load 70 _) _ _ _ _ :: _) _ _)); refine wpl_loadW hEv 0 rfl rfl rfl rfl Try.isAgg70 Try.sizeOf70 (xs := [.bool rl, .slice t1 rk.length t2, .slice t3 rv.length t4, .slice t5 ri.length t6]) rfl ?_)
            | (go_at_call 33; refine (hP2 hEv (fun W h => reads_row h 1 rfl) (fun W h => reads_row h 2 rfl) (fun W h => reads_row h 3 rfl)).mono ?_; clear hEv; rintro e wx ⟨v, rfl, pa, pc, rfl, hEx⟩)
            | ((with_reducible (show Go.wpList _ _ _ (Go.Oper.mk _ (.convert _ _ (.tmp 127)) _ _ _ _ :: _) _ _)); refine wpl_bytesStr (bs := b) rfl rfl rfl Try.underlying42 Try.underlying5 Try.underlying9 (reads_row hEx 0 rfl) rfl ?_)
            | ((with_reducible (show Go.wpList _ _ _ (Go.Oper.mk _ (.convert _ _ (.tmp 129)) _ _ _ _ :: _) _ _)); refine wpl_bytesStr (bs := b) rfl rfl rfl Try.underlying42 Try.underlying5 Try.underlying9 (hkb _ (hEx.suf (by repeat (first | exact List.suffix_refl _ | refine List.IsSuffix.trans ?_ (List.suffix_cons _ _))))) rfl ?_)
            | (go_at_call 26; refine (wakes09_any hEx).mono ?_; clear hEx; rintro e ww ⟨v, rfl, rfl, hEw⟩))
          go_ret
          exact ⟨_, rfl, rfl, hEw.cut 7 rfl⟩

end Go.Proofs.Ytohdljcpaogokaa
