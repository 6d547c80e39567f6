/-
  Are two calls the same?
-/
import Derived.Test.YtohdljcpaogokaaSeA
import Derived.Test.YtohdljcpaogokaaCkg
import Derived.Test.YtohdljcpaogokaaCka
namespace Go.Proofs.Ytohdljcpaogokaa
open Go.RowKit Go.SL

def teq (a b : TE) : Bool := a.path == b.path && (a.dir == b.dir && a.data == b.data)
theorem teq_iff {a b : TE} : teq a b = true ↔ a = b := by
  obtain ⟨p, d, x⟩ := a
  obtain ⟨q, e, y⟩ := b
  simp [teq]
theorem teq_comm (a b : TE) : teq a b = teq b a := by rw [Bool.eq_iff_iff, teq_iff, teq_iff]; exact eq_comm
theorem run_eqTE {T : TypeId} {w : World} {f0 f1 f2 : Field} (ht : Try.prog.underlying T = some (.struct (Try.prog.fieldsOf T))) (hp : Try.prog.stoodInHeld T = false) (hF : (Try.prog.fieldsOf T).toList = [f0, f1, f2])
    (hn : f0.name ≠ "_" ∧ f1.name ≠ "_" ∧ f2.name ≠ "_") (ho : f0.offset = 0 ∧ f1.offset = 1 ∧ f2.offset = 2)
    (hty : f0.type = 9 ∧ f1.type = 4 ∧ f2.type = 9) {a b : TE} :
    (Op.equalIn 10000 T (.agg (tcells a).toArray) (.agg (tcells b).toArray)).run Try.prog w = .ok (teq a b) w := by
  obtain ⟨n0, n1, n2⟩ := hn
  obtain ⟨o0, o1, o2⟩ := ho
  obtain ⟨t0, t1, t2⟩ := hty
  have x1 : ∀ k w, (part 9 (tcells k).toArray 0).run Try.prog w = .ok (.string ⟨k.path.toArray⟩) w := fun k w => run_part1 (by simp [go_sem]) rfl
  have x2 : ∀ k w, (part 4 (tcells k).toArray 1).run Try.prog w = .ok (.bool k.dir) w := fun k w => run_part1 (by simp [go_sem]) rfl
  have x3 : ∀ k w, (part 9 (tcells k).toArray 2).run Try.prog w = .ok (.string ⟨k.data.toArray⟩) w := fun k w => run_part1 (by simp [go_sem]) rfl
  have es : ∀ w, (Op.equalIn 9999 9 (.string ⟨a.path.toArray⟩) (.string ⟨b.path.toArray⟩)).run Try.prog w = .ok (a.path == b.path) w := fun w => run_eq_string 9998 Try.underlying9 _ _
  have ed : ∀ w, (Op.equalIn 9999 4 (.bool a.dir) (.bool b.dir)).run Try.prog w = .ok (a.dir == b.dir) w := fun w => run_eq_bool 9998 Try.underlying4 _ _
  have ez : ∀ w, (Op.equalIn 9999 9 (.string ⟨a.data.toArray⟩) (.string ⟨b.data.toArray⟩)).run Try.prog w = .ok (a.data == b.data) w := fun w => run_eq_string 9998 Try.underlying9 _ _
  rw [run_equalIn_struct w 9999 T _ _ ht hp, hF]
  simp only [Op.eqFields, n0, n1, n2, o0, o1, o2, t0, t1, t2, if_true, Sem.run_bind, x1, x2, x3, es, ed, ez, Result.andThen_ok, Sem.run_ite, Sem.run_pure, not_false_eq_true, ne_eq]
  unfold teq
  cases a.path == b.path <;> cases a.dir == b.dir <;> cases a.data == b.data <;> rfl
theorem list3 {α : Type} {l : List α} (h : l.length = 3) : ∃ a b c, l = [a, b, c] := by
  match l, h with
  | [a, b, c], _ => exact ⟨a, b, c, rfl⟩
theorem teT : five Try.prog 86 = [(true, 9, 0), (true, 4, 1), (true, 9, 2)] := by kernel_rfl
theorem run_eqTE' {T : TypeId} {w : World} (ht : Try.prog.underlying T = some (.struct (Try.prog.fieldsOf T))) (hp : Try.prog.stoodInHeld T = false) (h5 : five Try.prog T = [(true, 9, 0), (true, 4, 1), (true, 9, 2)]) {a b : TE} :
    (Op.equalIn 10000 T (.agg (tcells a).toArray) (.agg (tcells b).toArray)).run Try.prog w = .ok (teq a b) w := by
  unfold five at h5
  obtain ⟨f0, f1, f2, hF⟩ := list3 (l := (Try.prog.fieldsOf T).toList) (by have := congrArg List.length h5; simpa using this)
  rw [hF] at h5
  simp only [List.map_cons, List.map_nil, List.cons.injEq, Prod.mk.injEq, bne_iff_ne, and_true] at h5
  obtain ⟨⟨n0, t0, o0⟩, ⟨n1, t1, o1⟩, ⟨n2, t2, o2⟩⟩ := h5
  exact run_eqTE ht hp hF ⟨n0, n1, n2⟩ ⟨o0, o1, o2⟩ ⟨t0, t1, t2⟩
theorem eqTE (w : World) {a b : TE} : (Op.equalIn 10000 86 (.agg (tcells a).toArray) (.agg (tcells b).toArray)).run Try.prog w = .ok (teq a b) w :=
  run_eqTE' (by kernel_rfl) (by kernel_rfl) teT

def allT (s t : List TE) (n : Nat) : Bool := (List.range n).all fun i => match s[i]?, t[i]? with | some a, some b => teq a b | _, _ => false
def sameT (s t : List TE) : Bool := s.length == t.length && allT s t s.length
theorem sameT_iff {s t : List TE} : sameT s t = true ↔ s = t := by
  simp only [sameT, allT, Bool.and_eq_true, beq_iff_eq, List.all_eq_true, List.mem_range]
  constructor
  · rintro ⟨hl, h⟩
    refine List.ext_getElem? fun i => ?_
    by_cases hi : i < s.length
    · have h1 := h i hi
      rw [List.getElem?_eq_getElem hi, List.getElem?_eq_getElem (by omega)] at h1 ⊢
      rw [teq_iff.1 h1]
    · rw [List.getElem?_eq_none (by omega), List.getElem?_eq_none (by omega)]
  · rintro rfl
    refine ⟨rfl, fun i hi => ?_⟩
    rw [List.getElem?_eq_getElem hi]
    exact teq_iff.2 rfl
theorem tcells_len (y : TE) : (tcells y).length = 3 ∧ ∀ u ∈ tcells y, u.oneCell' = true := ⟨rfl, by simp [tcells, Value.oneCell']⟩
theorem allT_succ {s t : List TE} {k : Nat} (h1 : k < s.length) (h2 : k < t.length) : allT s t (k + 1) = (allT s t k && teq s[k] t[k]) := by
  rw [allT, List.range_succ, List.all_append]
  simp [allT, List.getElem?_eq_getElem h1, List.getElem?_eq_getElem h2]
theorem allT_no {s t : List TE} {k : Nat} (h1 : k < s.length) (h2 : k < t.length) (h : teq s[k] t[k] = false) : allT s t s.length = false := by
  rw [allT, List.all_eq_false]
  exact ⟨k, List.mem_range.2 h1, by simp [List.getElem?_eq_getElem h1, List.getElem?_eq_getElem h2, h]⟩
def restE (x y : SE) : Bool := x.do_ == y.do_ && (x.name == y.name && (x.path == y.path && (x.acts == y.acts && x.keep == y.keep)))
def sameE (x y : SE) : Bool := sameT x.tree y.tree && restE x y
theorem sameE_iff {x y : SE} : sameE x y = true ↔ x = y := by
  obtain ⟨d, n, p, t, a, k⟩ := x
  obtain ⟨d', n', p', t', a', k'⟩ := y
  simp only [sameE, restE, Bool.and_eq_true, beq_iff_eq, SE.mk.injEq, sameT_iff]
  constructor
  · rintro ⟨h1, h2, h3, h4, h5, h6⟩
    exact ⟨h2, h3, h4, h1, h5, h6⟩
  · rintro ⟨h1, h2, h3, h4, h5, h6⟩
    exact ⟨h4, h1, h2, h3, h5, h6⟩
theorem u8_eq (u v : UInt8) : ((u.toNat : Int) == (v.toNat : Int)) = (u == v) := by
  rw [Bool.eq_iff_iff]
  simp [← UInt8.toNat_inj]
  omega
theorem nat_eq (u v : Nat) : ((u : Int) == (v : Int)) = (u == v) := by
  rw [Bool.eq_iff_iff]
  simp
  omega

def SmT (s t : List TE) (l : List HProp) (i : Value) (wr : World) : Prop := ∃ k : Nat, k ≤ s.length ∧ i = .int .i64 k ∧ allT s t k = true ∧ Ent l wr

set_option maxRecDepth 100000 in
set_option maxHeartbeats 2000000 in
attribute [-go_sem] Instr.loadAt Go.run_equalIn_agg in
theorem same_any {x y : SE} {ao bo : Option Addr} {c d : Nat} (hn : x.tree.length ≤ 1000000) {l : List HProp} {w : World} (hE : Ent l w)
    (ka : Knows l (reads (.slice ao x.tree.length c) x.tree.length (treeCells x.tree))) (kb : Knows l (reads (.slice bo y.tree.length d) y.tree.length (treeCells y.tree))) :
    Calls Try.prog 45 #[.agg (xcells x ao c).toArray, .agg (xcells y bo d).toArray] w (Ret fun v w' => v = .bool (sameE x y) ∧ Ent l w') := by
  have hu := u8_eq x.do_ y.do_
  have ha := nat_eq x.acts y.acts
  unfold xcells
  obtain ⟨d1, name1, path1, s, acts1, keep1⟩ := x
  obtain ⟨d2, name2, path2, t, acts2, keep2⟩ := y
  simp only at *
  cases h3 : ((s.length : Int) != (t.length : Int)) with
  | true =>
    have R := SL.hid (show sameE ⟨d1, name1, path1, s, acts1, keep1⟩ ⟨d2, name2, path2, t, acts2, keep2⟩ = false by
      have : (s.length == t.length) = false := by
        rw [beq_eq_false_iff_ne]
        intro e
        rw [e] at h3
        simp at h3
      simp only [sameE, sameT, this, Bool.false_and])
    clear hu ha
    go_enter Try.func45, Try.ntmps45
    go_wp2_with (first
      | go_skip
      | ((with_reducible (show Go.wpList _ _ _ (Go.Oper.mk _ (.box _ _) _ _ _ _ :: _) _ _)); refine wpl_box hE rfl rfl rfl ?_; clear hE; intro b2 w hE; simp only [Act.eval, Act.put, List.setIfInBounds_toArray, List.set_cons_zero, List.set_cons_succ, getD_lit, List.getD_cons_succ, List.getD_cons_zero, Value.cells] at hE)
      | ((with_reducible (show Go.wpList _ _ _ (Go.Oper.mk _ (.load _ _) _ _ _ _ :: _) _ _)); first | (refine wpl_load1 hE 0 rfl rfl rfl rfl (by simp [go_sem]) rfl ?_) | (refine wpl_load1 hE 1 rfl rfl rfl rfl (by simp [go_sem]) rfl ?_) | (refine wpl_load1 hE 2 rfl rfl rfl rfl (by simp [go_sem]) rfl ?_) | (refine wpl_load1 hE 3 rfl rfl rfl rfl (by simp [go_sem]) rfl ?_) | (refine wpl_load1 hE 4 rfl rfl rfl rfl (by simp [go_sem]) rfl ?_) | (refine wpl_load1 hE 5 rfl rfl rfl rfl (by simp [go_sem]) rfl ?_)))
    go_ret
    exact ⟨_, rfl, by rw [R.out]; rfl, hE.tail.tail⟩
  | false =>
    have hl : s.length = t.length := by
      have h : ¬ ((s.length : Int) ≠ (t.length : Int)) := by simpa using h3
      omega
    have R0 := SL.hid (show sameE ⟨d1, name1, path1, s, acts1, keep1⟩ ⟨d2, name2, path2, t, acts2, keep2⟩ = (allT s t s.length && (d1 == d2 && (name1 == name2 && (path1 == path2 && (acts1 == acts2 && keep1 == keep2))))) by
      have e3 : (s.length == t.length) = true := by rw [hl]; simp
      simp only [sameE, restE, sameT, e3, Bool.true_and])
    generalize sameE ⟨d1, name1, path1, s, acts1, keep1⟩ ⟨d2, name2, path2, t, acts2, keep2⟩ = R at *
    go_enter Try.func45, Try.ntmps45
    go_wp2_with (first
      | go_skip
      | ((with_reducible (show Go.wpList _ _ _ (Go.Oper.mk _ (.box _ (.tmp 0)) _ _ _ _ :: _) _ _)); refine wpl_box hE rfl rfl rfl ?_; clear hE; intro b2 w hE1; simp only [Act.eval, Act.put, List.setIfInBounds_toArray, List.set_cons_zero, List.set_cons_succ, getD_lit, List.getD_cons_succ, List.getD_cons_zero, Value.cells] at hE1)
      | ((with_reducible (show Go.wpList _ _ _ (Go.Oper.mk _ (.box _ (.tmp 1)) _ _ _ _ :: _) _ _)); refine wpl_box hE1 rfl rfl rfl ?_; clear hE1; intro b3 w hE; simp only [Act.eval, Act.put, List.setIfInBounds_toArray, List.set_cons_zero, List.set_cons_succ, getD_lit, List.getD_cons_succ, List.getD_cons_zero, Value.cells] at hE)
      | ((with_reducible (show Go.wpList _ _ _ (Go.Oper.mk _ (.load _ _) _ _ _ _ :: _) _ _)); first | (refine wpl_load1 hE 0 rfl rfl rfl rfl (by simp [go_sem]) rfl ?_) | (refine wpl_load1 hE 1 rfl rfl rfl rfl (by simp [go_sem]) rfl ?_) | (refine wpl_load1 hE 2 rfl rfl rfl rfl (by simp [go_sem]) rfl ?_) | (refine wpl_load1 hE 3 rfl rfl rfl rfl (by simp [go_sem]) rfl ?_) | (refine wpl_load1 hE 4 rfl rfl rfl rfl (by simp [go_sem]) rfl ?_) | (refine wpl_load1 hE 5 rfl rfl rfl rfl (by simp [go_sem]) rfl ?_)))
    go_loopw [17] (fun i wr => SmT s t (pt b3 (.cells #[.int .u8 d2.toNat, .string ⟨name2.toArray⟩, .string ⟨path2.toArray⟩, .slice bo t.length d, .int .u16 acts2, .string ⟨keep2.toArray⟩] 87) :: pt b2 (.cells #[.int .u8 d1.toNat, .string ⟨name1.toArray⟩, .string ⟨path1.toArray⟩, .slice ao s.length c, .int .u16 acts1, .string ⟨keep1.toArray⟩] 87) :: l) i wr) (fun i _ => s.length - (intOf i).toNat)
    case atStart => exact ⟨0, Nat.zero_le _, rfl, rfl, hE⟩
    case round =>
      clear hE
      obtain ⟨k, hkl, rfl, hall, hE⟩ := hrel
      have Hall := SL.hid hall
      clear hall
      by_cases hlt : k < s.length
      · clear hu ha
        have hlt2 : k < t.length := by omega
        have hkb : ((k : Int) < (t.length : Int)) := by omega
        obtain ⟨ba, oa, rfl, _⟩ := reads_form (ka _ hE.tail.tail) (by omega) (by rw [treeCells_len]; omega)
        obtain ⟨bb, ob, rfl, _⟩ := reads_form (kb _ hE.tail.tail) (by omega) (by rw [treeCells_len]; omega)
        have Hcx := SL.hid (te_cells (ka _ hE.tail.tail) hlt)
        have lb := SL.hid (show ∀ W, Ent l W → (Instr.loadAt 86 (.pointer (some ⟨bb, ob + k * 3, none⟩))).run Try.prog W = .ok (.agg (tcells t[k]).toArray) W from fun W hW => atC Try.isAgg86 Try.sizeOf86 _ rfl (te_cells (kb W hW) hlt2))
        have he := fun w => eqTE w (a := t[k]) (b := s[k])
        rw [teq_comm] at he
        have hca := tcells_len s[k]
        have Hs := SL.hid (allT_succ hlt hlt2)
        have Hno := SL.hid (fun h => allT_no (s := s) (t := t) hlt hlt2 h)
        generalize teq s[k] t[k] = q at *
        generalize tcells s[k] = xa at *
        generalize tcells t[k] = xb at *
        have hxa : ∀ u ∈ xa, u.oneCell' = true := hca.2
        have Hxa := SL.hid hxa
        have Hxl := SL.hid hca.1
        clear hca hxa
        cases q
        all_goals
          go_wp2_with (first
            | go_skip
            | ((with_reducible (show Go.wpList _ _ _ (Go.Oper.mk _ (.load 86 _) _ _ _ _ :: _) _ _)); refine wpl_loadC rfl rfl rfl Try.isAgg86 Try.sizeOf86 xa Hxl.out Hcx.out ?_)
            | ((with_reducible (show Go.wpList _ _ _ (Go.Oper.mk _ (.alloc _) _ _ _ _ :: _) _ _)); refine wpl_alloc hE rfl rfl (by simp [go_sem]; rfl) ?_; clear hE; intro b5 w1 hE1)
            | ((with_reducible (show Go.wpList _ _ _ (Go.Oper.mk _ (.store _ _ _) _ _ _ _ :: _) _ _)); refine wpl_storeW hE1 0 rfl rfl rfl (xs := xa) rfl rfl Try.sizeOf86 Hxl.out Hxa.out rfl ?_; clear hE1; intro w2 hE; simp only [List.set_cons_zero, List.set_cons_succ] at hE))
          refine wp_region_held_drew (S := (fun w' => (Instr.loadAt 81 (.pointer (some ⟨b3, 3, none⟩))).run Try.prog w' = .ok (.slice (some ⟨bb, ob, none⟩) t.length d) w' ∧ (Instr.loadAt 86 (.pointer (some ⟨bb, ob + k * 3, none⟩))).run Try.prog w' = .ok (.agg xb.toArray) w' ∧ (Instr.loadAt 86 (.pointer (some ⟨b5, 0, none⟩))).run Try.prog w' = .ok (.agg xa.toArray) w')) (by kernel_rfl) ⟨atV hE.drew 1 rfl (by simp [go_sem]) rfl, lb.out _ hE.drew.tail.tail.tail, atA hE.drew 0 rfl Try.isAgg86 Try.sizeOf86 Hxl.out (off := 0) (fun j _ => by simp)⟩ (fun hS => ?_)
          refine wpAnyH_take (i := 0) (oi := { dst := some 22, op := Go.Op.fieldAddr 87 (Go.Operand.tmp 3) 3, type := 0, pos := "script.go:93", after := #[], guard := none }) (v := ?_) rfl (by kernel_rfl) (by kernel_rfl) (by kernel_rfl) (fun _ _ _ h => h) (Or.inl ⟨by rfl, ?_⟩) hS ?_
          rotate_left
          · (intro w hSw; (try dsimp only at hSw); go_simp; (try with_reducible rfl))
          try simp only [Act.put, List.setIfInBounds_toArray, List.set_cons_zero, List.set_cons_succ]
          refine wpAnyH_take (i := 1) (oi := { dst := some 23, op := Go.Op.load 81 (Go.Operand.tmp 22), type := 81, pos := "script.go:93", after := #[{ on := 0, ground := Go.Ground.data }], guard := none }) (v := ?_) rfl (by kernel_rfl) (by kernel_rfl) (by kernel_rfl) (fun _ _ _ h => h) (Or.inl ⟨by rfl, ?_⟩) hS ?_
          rotate_left
          · (intro w hSw; (try dsimp only at hSw); go_simp; (try with_reducible rfl))
          try simp only [Act.put, List.setIfInBounds_toArray, List.set_cons_zero, List.set_cons_succ]
          refine wpAnyH_take (i := 2) (oi := { dst := some 24, op := Go.Op.move (Go.Operand.tmp 5), type := 3, pos := "script.go:93", after := #[], guard := none }) (v := ?_) rfl (by kernel_rfl) (by kernel_rfl) (by kernel_rfl) (fun _ _ _ h => h) (Or.inl ⟨by rfl, ?_⟩) hS ?_
          rotate_left
          · (intro w hSw; (try dsimp only at hSw); go_simp; (try with_reducible rfl))
          try simp only [Act.put, List.setIfInBounds_toArray, List.set_cons_zero, List.set_cons_succ]
          refine wpAnyH_take (i := 3) (oi := { dst := some 25, op := Go.Op.indexAddr 81 (Go.Operand.tmp 23) (Go.Operand.tmp 24), type := 0, pos := "script.go:93", after := #[{ on := 1, ground := Go.Ground.data }, { on := 2, ground := Go.Ground.data }], guard := none }) (v := ?_) rfl (by kernel_rfl) (by kernel_rfl) (by kernel_rfl) (fun _ _ _ h => h) (Or.inl ⟨by rfl, ?_⟩) hS ?_
          rotate_left
          · (intro w hSw; (try dsimp only at hSw); go_simp; (try with_reducible rfl))
          try simp only [Act.put, List.setIfInBounds_toArray, List.set_cons_zero, List.set_cons_succ]
          refine wpAnyH_take (i := 4) (oi := { dst := some 26, op := Go.Op.load 86 (Go.Operand.tmp 25), type := 86, pos := "script.go:93", after := #[{ on := 3, ground := Go.Ground.data }], guard := none }) (v := ?_) rfl (by kernel_rfl) (by kernel_rfl) (by kernel_rfl) (fun _ _ _ h => h) (Or.inl ⟨by rfl, ?_⟩) hS ?_
          rotate_left
          · (intro w hSw; (try dsimp only at hSw); go_simp; (try with_reducible rfl))
          try simp only [Act.put, List.setIfInBounds_toArray, List.set_cons_zero, List.set_cons_succ]
          refine wpAnyH_take (i := 5) (oi := { dst := some 27, op := Go.Op.load 86 (Go.Operand.tmp 6), type := 86, pos := "script.go:93", after := #[], guard := none }) (v := ?_) rfl (by kernel_rfl) (by kernel_rfl) (by kernel_rfl) (fun _ _ _ h => h) (Or.inl ⟨by rfl, ?_⟩) hS ?_
          rotate_left
          · (intro w hSw; (try dsimp only at hSw); go_simp; (try with_reducible rfl))
          try simp only [Act.put, List.setIfInBounds_toArray, List.set_cons_zero, List.set_cons_succ]
          refine wpAnyH_take (i := 6) (oi := { dst := some 28, op := Go.Op.binOp Go.BinOp.neq 86 (Go.Operand.tmp 26) (Go.Operand.tmp 27) 86, type := 4, pos := "script.go:93", after := #[{ on := 4, ground := Go.Ground.data }, { on := 5, ground := Go.Ground.data }], guard := none }) (v := ?_) rfl (by kernel_rfl) (by kernel_rfl) (by kernel_rfl) (fun _ _ _ h => h) (Or.inl ⟨by rfl, ?_⟩) hS ?_
          rotate_left
          · (intro w hSw; (try dsimp only at hSw); go_simp; (try with_reducible rfl))
          try simp only [Act.put, List.setIfInBounds_toArray, List.set_cons_zero, List.set_cons_succ]
          refine wpAnyH_done (by kernel_rfl) ?_ _
        · go_wp2
          go_ret
          exact ⟨_, rfl, by rw [R0.out, Hno.out trivial]; rfl, hE.drew.tail.tail.tail⟩
        · go_wp2
          go_roundw
          case rel => exact ⟨k + 1, hlt, by simp, by rw [Hs.out, Hall.out]; rfl, hE.drew.tail⟩
          case measure => simp [intOf]; omega
      · have E2 : allT s t s.length = true := by
          have := Hall.out
          rwa [show k = s.length by omega] at this
        rw [E2, Bool.true_and] at R0
        clear E2
        have Ru := SL.hid hu
        have Ra := SL.hid ha
        clear hu ha
        cases e1 : (d1 == d2) with
        | false =>
          have hu : ((d1.toNat : Int) == (d2.toNat : Int)) = false := by rw [Ru.out, e1]
          have R1 := SL.hid (show R = false by rw [R0.out, e1]; rfl)
          clear e1
          go_wp2_with (first
            | go_skip
            | ((with_reducible (show Go.wpList _ _ _ (Go.Oper.mk _ (.load _ _) _ _ _ _ :: _) _ _)); first | (refine wpl_load1 hE 0 rfl rfl rfl rfl (by simp [go_sem]) rfl ?_) | (refine wpl_load1 hE 1 rfl rfl rfl rfl (by simp [go_sem]) rfl ?_) | (refine wpl_load1 hE 2 rfl rfl rfl rfl (by simp [go_sem]) rfl ?_) | (refine wpl_load1 hE 3 rfl rfl rfl rfl (by simp [go_sem]) rfl ?_) | (refine wpl_load1 hE 4 rfl rfl rfl rfl (by simp [go_sem]) rfl ?_) | (refine wpl_load1 hE 5 rfl rfl rfl rfl (by simp [go_sem]) rfl ?_)))
          go_ret
          exact ⟨_, rfl, by rw [R1.out]; rfl, hE.tail.tail⟩
        | true =>
          have hu : ((d1.toNat : Int) == (d2.toNat : Int)) = true := by rw [Ru.out, e1]
          rw [e1, Bool.true_and] at R0
          clear e1 Ru
          cases e2 : (name1 == name2) with
          | false =>
            have R1 := SL.hid (show R = false by rw [R0.out, e2]; rfl)
            go_wp2_with (first
              | go_skip
              | ((with_reducible (show Go.wpList _ _ _ (Go.Oper.mk _ (.load _ _) _ _ _ _ :: _) _ _)); first | (refine wpl_load1 hE 0 rfl rfl rfl rfl (by simp [go_sem]) rfl ?_) | (refine wpl_load1 hE 1 rfl rfl rfl rfl (by simp [go_sem]) rfl ?_) | (refine wpl_load1 hE 2 rfl rfl rfl rfl (by simp [go_sem]) rfl ?_) | (refine wpl_load1 hE 3 rfl rfl rfl rfl (by simp [go_sem]) rfl ?_) | (refine wpl_load1 hE 4 rfl rfl rfl rfl (by simp [go_sem]) rfl ?_) | (refine wpl_load1 hE 5 rfl rfl rfl rfl (by simp [go_sem]) rfl ?_)))
            go_ret
            exact ⟨_, rfl, by rw [R1.out]; rfl, hE.tail.tail⟩
          | true =>
            rw [e2, Bool.true_and] at R0
            cases e3 : (path1 == path2) with
            | false =>
              have R1 := SL.hid (show R = false by rw [R0.out, e3]; rfl)
              go_wp2_with (first
                | go_skip
                | ((with_reducible (show Go.wpList _ _ _ (Go.Oper.mk _ (.load _ _) _ _ _ _ :: _) _ _)); first | (refine wpl_load1 hE 0 rfl rfl rfl rfl (by simp [go_sem]) rfl ?_) | (refine wpl_load1 hE 1 rfl rfl rfl rfl (by simp [go_sem]) rfl ?_) | (refine wpl_load1 hE 2 rfl rfl rfl rfl (by simp [go_sem]) rfl ?_) | (refine wpl_load1 hE 3 rfl rfl rfl rfl (by simp [go_sem]) rfl ?_) | (refine wpl_load1 hE 4 rfl rfl rfl rfl (by simp [go_sem]) rfl ?_) | (refine wpl_load1 hE 5 rfl rfl rfl rfl (by simp [go_sem]) rfl ?_)))
              go_ret
              exact ⟨_, rfl, by rw [R1.out]; rfl, hE.tail.tail⟩
            | true =>
              rw [e3, Bool.true_and] at R0
              cases e4 : (acts1 == acts2) with
              | false =>
                have ha : ((acts1 : Int) == (acts2 : Int)) = false := by rw [Ra.out, e4]
                have R1 := SL.hid (show R = false by rw [R0.out, e4]; rfl)
                clear e4
                go_wp2_with (first
                  | go_skip
                  | ((with_reducible (show Go.wpList _ _ _ (Go.Oper.mk _ (.load _ _) _ _ _ _ :: _) _ _)); first | (refine wpl_load1 hE 0 rfl rfl rfl rfl (by simp [go_sem]) rfl ?_) | (refine wpl_load1 hE 1 rfl rfl rfl rfl (by simp [go_sem]) rfl ?_) | (refine wpl_load1 hE 2 rfl rfl rfl rfl (by simp [go_sem]) rfl ?_) | (refine wpl_load1 hE 3 rfl rfl rfl rfl (by simp [go_sem]) rfl ?_) | (refine wpl_load1 hE 4 rfl rfl rfl rfl (by simp [go_sem]) rfl ?_) | (refine wpl_load1 hE 5 rfl rfl rfl rfl (by simp [go_sem]) rfl ?_)))
                go_ret
                exact ⟨_, rfl, by rw [R1.out]; rfl, hE.tail.tail⟩
              | true =>
                have ha : ((acts1 : Int) == (acts2 : Int)) = true := by rw [Ra.out, e4]
                rw [e4, Bool.true_and] at R0
                clear e4 Ra
                cases e5 : (keep1 == keep2)
                all_goals
                  have R1 := SL.hid (R0.out.trans e5)
                  go_wp2_with (first
                    | go_skip
                    | ((with_reducible (show Go.wpList _ _ _ (Go.Oper.mk _ (.load _ _) _ _ _ _ :: _) _ _)); first | (refine wpl_load1 hE 0 rfl rfl rfl rfl (by simp [go_sem]) rfl ?_) | (refine wpl_load1 hE 1 rfl rfl rfl rfl (by simp [go_sem]) rfl ?_) | (refine wpl_load1 hE 2 rfl rfl rfl rfl (by simp [go_sem]) rfl ?_) | (refine wpl_load1 hE 3 rfl rfl rfl rfl (by simp [go_sem]) rfl ?_) | (refine wpl_load1 hE 4 rfl rfl rfl rfl (by simp [go_sem]) rfl ?_) | (refine wpl_load1 hE 5 rfl rfl rfl rfl (by simp [go_sem]) rfl ?_)))
                  go_ret
                  exact ⟨_, rfl, by rw [R1.out]; rfl, hE.tail.tail⟩
end Go.Proofs.Ytohdljcpaogokaa
namespace Go.Proofs.Ytohdljcpaogokaa
open Go.RowKit Go.SL

theorem nm_lt256 {n : Nat} : numOk (1 : Nat) n = decide (n < 256) := by
  simp only [numOk, wideB]
  rw [Bool.eq_iff_iff]
  simp
theorem nm_lt65536 {n : Nat} : numOk (2 : Nat) n = decide (n < 65536) := by
  simp only [numOk, wideB]
  rw [Bool.eq_iff_iff]
  simp
theorem orLimit_ne (e : Int) : orLimit e ≠ 0 := by
  unfold orLimit
  split
  · omega
  · assumption
theorem pN_ok {ys : List UInt8} (q : PS) (h : ys.length ≤ 255) : pN ys q = (q.1 ++ nmB ys, q.2) := by rw [pN, if_pos h]
theorem pN_bad {ys : List UInt8} (q : PS) (h : ¬ ys.length ≤ 255) : (pN ys q).2 ≠ 0 := by rw [pN, if_neg h]; exact orLimit_ne _
theorem pN_dead {ys : List UInt8} {q : PS} (h : q.2 ≠ 0) : (pN ys q).2 ≠ 0 := by
  unfold pN
  split
  · exact h
  · exact orLimit_ne _
theorem pW_dead {w n : Nat} {q : PS} (h : q.2 ≠ 0) : (pW w n q).2 ≠ 0 := by
  unfold pW
  split
  · exact h
  · exact orLimit_ne _
theorem pW1_ok {n : Nat} (q : PS) (h : n ≤ 255) : pW 1 n q = (q.1 ++ be 1 n, q.2) := by rw [pW, nm_lt256, decide_eq_true (by omega), if_pos rfl]
theorem pW1_bad {n : Nat} (q : PS) (h : ¬ n ≤ 255) : (pW 1 n q).2 ≠ 0 := by rw [pW, nm_lt256, decide_eq_false (by omega)]; exact orLimit_ne _
theorem pW2_ok {n : Nat} (q : PS) (h : n ≤ 65535) : pW 2 n q = (q.1 ++ be 2 n, q.2) := by rw [pW, nm_lt65536, decide_eq_true (by omega), if_pos rfl]
theorem pW2_bad {n : Nat} (q : PS) (h : ¬ n ≤ 65535) : (pW 2 n q).2 ≠ 0 := by rw [pW, nm_lt65536, decide_eq_false (by omega)]; exact orLimit_ne _
theorem pTE_dead {y : TE} {q : PS} (h : q.2 ≠ 0) : (pTE y q).2 ≠ 0 := pW_dead (pW_dead (pN_dead h))
theorem pTE_ok {y : TE} (q : PS) (h : teOk y = true) : pTE y q = (q.1 ++ teB y, q.2) := by
  simp only [teOk, Bool.and_eq_true, decide_eq_true_eq] at h
  unfold pTE
  have hd : (if y.dir = true then 1 else 0) ≤ 255 := by split <;> omega
  have e : be 1 (if y.dir = true then 1 else 0) = [if y.dir = true then 1 else 0] := by cases y.dir <;> rfl
  simp only [pN_ok q h.1, pW1_ok _ hd, pW2_ok _ h.2, e, teB, List.append_assoc, List.cons_append, List.nil_append]
theorem pTE_bad {y : TE} (q : PS) (h : ¬ teOk y = true) : (pTE y q).2 ≠ 0 := by
  simp only [teOk, Bool.and_eq_true, decide_eq_true_eq] at h
  unfold pTE
  by_cases h1 : y.path.length ≤ 255
  · exact pW2_bad _ (fun h2 => h ⟨h1, h2⟩)
  · exact pW_dead (pW_dead (pN_bad _ h1))
theorem fold_dead : ∀ (t : List TE) (q : PS), q.2 ≠ 0 → (t.foldl (fun q y => pTE y q) q).2 ≠ 0
  | [], _, h => h
  | _ :: t, _, h => fold_dead t _ (pTE_dead h)
theorem fold_ok : ∀ (t : List TE) (q : PS), t.all teOk = true → t.foldl (fun q y => pTE y q) q = (q.1 ++ t.flatMap teB, q.2)
  | [], q, _ => by simp
  | y :: t, q, h => by
    simp only [List.all_cons, Bool.and_eq_true] at h
    rw [List.foldl_cons, pTE_ok q h.1, fold_ok t _ h.2]
    simp
theorem fold_bad : ∀ (t : List TE) (q : PS), ¬ t.all teOk = true → (t.foldl (fun q y => pTE y q) q).2 ≠ 0
  | [], _, h => absurd rfl h
  | y :: t, q, h => by
    rw [List.foldl_cons]
    by_cases h1 : teOk y = true
    · exact fold_bad t _ (fun h2 => h (by simp only [List.all_cons, h1, Bool.true_and]; exact h2))
    · exact fold_dead t _ (pTE_bad q h1)
theorem pTr_ok {t : List TE} (q : PS) (h1 : t.length ≤ 255) (h2 : t.all teOk = true) : pTr t q = (q.1 ++ treeB t, q.2) := by
  rw [pTr, pW1_ok q h1, fold_ok t _ h2, be_one]
  simp [treeB]
theorem pTr_bad {t : List TE} (q : PS) (h : ¬ (t.length ≤ 255 ∧ t.all teOk = true)) : (pTr t q).2 ≠ 0 := by
  unfold pTr
  by_cases h1 : t.length ≤ 255
  · exact fold_bad t _ (fun h2 => h ⟨h1, h2⟩)
  · exact fold_dead t _ (pW1_bad q h1)

def putE (x : SE) : PS := (piecesOf x.do_).foldl (fun q p => fPut p x q) (pW 1 x.do_.toNat ([], 0))
theorem pW_do (d : UInt8) : pW 1 d.toNat ([], 0) = ([d], 0) := by
  rw [pW1_ok _ (by have := d.toNat_lt; omega), be_one']
  rfl
theorem putE_name {x : SE} (hp : piecesOf x.do_ = [pName]) (h : hasName x.do_ = true ∧ hasPath x.do_ = false ∧ hasTree x.do_ = false ∧ hasActs x.do_ = false ∧ hasKeep x.do_ = false) :
    (fitsE x = true → putE x = (entB x, 0)) ∧ (fitsE x = false → (putE x).2 ≠ 0) := by
  obtain ⟨h1, h2, h3, h4, h5⟩ := h
  have e : putE x = pN x.name ([x.do_], 0) := by simp [putE, hp, pW_do, fPut]
  have ef : fitsE x = decide (x.name.length ≤ 255) := by simp [fitsE, h1, h2, h3, h5]
  have eb : entB x = [x.do_] ++ nmB x.name := by simp [entB, bodyE, h1, h2, h3, h4, h5]
  rw [e, ef, eb]
  refine ⟨fun h => pN_ok _ (of_decide_eq_true h), fun h => pN_bad _ (of_decide_eq_false h)⟩
theorem putE_path {x : SE} (hp : piecesOf x.do_ = [pName, pPath]) (h : hasName x.do_ = true ∧ hasPath x.do_ = true ∧ hasTree x.do_ = false ∧ hasActs x.do_ = false ∧ hasKeep x.do_ = false) :
    (fitsE x = true → putE x = (entB x, 0)) ∧ (fitsE x = false → (putE x).2 ≠ 0) := by
  obtain ⟨h1, h2, h3, h4, h5⟩ := h
  have e : putE x = pN x.path (pN x.name ([x.do_], 0)) := by simp [putE, hp, pW_do, fPut, pName, pPath]
  have ef : fitsE x = (decide (x.name.length ≤ 255) && decide (x.path.length ≤ 255)) := by simp [fitsE, h1, h2, h3, h5]
  have eb : entB x = [x.do_] ++ nmB x.name ++ nmB x.path := by simp [entB, bodyE, h1, h2, h3, h4, h5]
  rw [e, ef, eb, Bool.and_eq_true, decide_eq_true_eq, decide_eq_true_eq]
  refine ⟨fun h => by rw [pN_ok _ h.1, pN_ok _ h.2], fun h => ?_⟩
  by_cases g : x.name.length ≤ 255
  · exact pN_bad _ (fun g2 => by simp [g, g2] at h)
  · exact pN_dead (pN_bad _ g)
theorem putE_tree {x : SE} (hp : piecesOf x.do_ = [pName, pTree]) (h : hasName x.do_ = true ∧ hasPath x.do_ = false ∧ hasTree x.do_ = true ∧ hasActs x.do_ = false ∧ hasKeep x.do_ = false) :
    (fitsE x = true → putE x = (entB x, 0)) ∧ (fitsE x = false → (putE x).2 ≠ 0) := by
  obtain ⟨h1, h2, h3, h4, h5⟩ := h
  have e : putE x = pTr x.tree (pN x.name ([x.do_], 0)) := by simp [putE, hp, pW_do, fPut, pName, pPath, pTree, pKeep, pActs]
  have ef : fitsE x = (decide (x.name.length ≤ 255) && (decide (x.tree.length ≤ 255) && x.tree.all teOk)) := by simp [fitsE, h1, h2, h3, h5]
  have eb : entB x = [x.do_] ++ nmB x.name ++ treeB x.tree := by simp [entB, bodyE, h1, h2, h3, h4, h5]
  rw [e, ef, eb, Bool.and_eq_true, Bool.and_eq_true, decide_eq_true_eq, decide_eq_true_eq]
  refine ⟨fun h => by rw [pN_ok _ h.1, pTr_ok _ h.2.1 h.2.2], fun h => ?_⟩
  by_cases g : x.name.length ≤ 255
  · exact pTr_bad _ (fun g2 => by rw [decide_eq_true g, decide_eq_true g2.1, g2.2] at h; simp at h)
  · unfold pTr
    exact fold_dead _ _ (pW_dead (pN_bad _ g))
theorem putE_acts {x : SE} (hg : x.good) (hp : piecesOf x.do_ = [pActs, pKeep]) (h : hasName x.do_ = false ∧ hasPath x.do_ = false ∧ hasTree x.do_ = false ∧ hasActs x.do_ = true ∧ hasKeep x.do_ = true) :
    (fitsE x = true → putE x = (entB x, 0)) ∧ (fitsE x = false → (putE x).2 ≠ 0) := by
  obtain ⟨h1, h2, h3, h4, h5⟩ := h
  have e : putE x = pN x.keep (pW 2 x.acts ([x.do_], 0)) := by simp [putE, hp, pW_do, fPut, pName, pPath, pTree, pKeep, pActs]
  have ef : fitsE x = decide (x.keep.length ≤ 255) := by simp [fitsE, h1, h2, h3, h5]
  have eb : entB x = [x.do_] ++ be 2 x.acts ++ nmB x.keep := by simp [entB, bodyE, h1, h2, h3, h4, h5]
  rw [e, ef, eb, decide_eq_true_eq, decide_eq_false_iff_not, pW2_ok _ (by unfold SE.good at hg; omega)]
  exact ⟨fun h => pN_ok _ h, fun h => pN_bad _ h⟩
theorem putE_keep {x : SE} (hp : piecesOf x.do_ = [pKeep]) (h : hasName x.do_ = false ∧ hasPath x.do_ = false ∧ hasTree x.do_ = false ∧ hasActs x.do_ = false ∧ hasKeep x.do_ = true) :
    (fitsE x = true → putE x = (entB x, 0)) ∧ (fitsE x = false → (putE x).2 ≠ 0) := by
  obtain ⟨h1, h2, h3, h4, h5⟩ := h
  have e : putE x = pN x.keep ([x.do_], 0) := by simp [putE, hp, pW_do, fPut, pName, pPath, pTree, pKeep, pActs]
  have ef : fitsE x = decide (x.keep.length ≤ 255) := by simp [fitsE, h1, h2, h3, h5]
  have eb : entB x = [x.do_] ++ nmB x.keep := by simp [entB, bodyE, h1, h2, h3, h4, h5]
  rw [e, ef, eb, decide_eq_true_eq, decide_eq_false_iff_not]
  exact ⟨fun h => pN_ok _ h, fun h => pN_bad _ h⟩
theorem putE_fits {x : SE} (hg : x.good) : (fitsE x = true → putE x = (entB x, 0)) ∧ (fitsE x = false → (putE x).2 ≠ 0) := by
  obtain ⟨d, name, path, tree, acts, keep⟩ := x
  rcases u8cases d with rfl | rfl | rfl | rfl | rfl | rfl | ⟨hp, _⟩
  · exact putE_tree rfl ⟨rfl, rfl, rfl, rfl, rfl⟩
  · exact putE_name rfl ⟨rfl, rfl, rfl, rfl, rfl⟩
  · exact putE_path rfl ⟨rfl, rfl, rfl, rfl, rfl⟩
  · exact putE_path rfl ⟨rfl, rfl, rfl, rfl, rfl⟩
  · exact putE_acts hg rfl ⟨rfl, rfl, rfl, rfl, rfl⟩
  · exact putE_keep rfl ⟨rfl, rfl, rfl, rfl, rfl⟩
  · obtain ⟨h1, h2, h3, h4, h5⟩ := pieces_none hp
    have e : putE ⟨d, name, path, tree, acts, keep⟩ = ([d], 0) := by simp [putE, hp, pW_do]
    rw [e]
    simp [fitsE, entB, bodyE, h1, h2, h3, h4, h5]

/-- bounds of what a walk meets -/
def SE.okb (x : SE) : Prop := x.good ∧ (x.name.length ≤ 100000 ∧ x.path.length ≤ 100000 ∧ x.keep.length ≤ 100000) ∧ x.tree.length ≤ 1000 ∧ ∀ y ∈ x.tree, y.path.length + y.data.length + 4 ≤ 1000000
theorem fPut_len {x : SE} (h : x.okb) (p : FuncId × FuncId) (q : PS) : (fPut p x q).1.length ≤ q.1.length + 1001000000 := by
  obtain ⟨_, ⟨h1, h2, h3⟩, h4, h5⟩ := h
  unfold fPut
  split
  · have := pN_len x.name q; omega
  split
  · have := pN_len x.path q; omega
  split
  · have := pN_len x.keep q; omega
  split
  · have := pW_len 2 x.acts q; omega
  · unfold pTr
    have e1 := fold_len 1000000 x.tree (pW 1 x.tree.length q) h5
    have e2 := pW_len 1 x.tree.length q
    have e3 : x.tree.length * 1000000 ≤ 1000 * 1000000 := Nat.mul_le_mul_right _ h4
    omega
theorem fPuts_len {x : SE} (h : x.okb) : ∀ (ps : List (FuncId × FuncId)) (q : PS), (ps.foldl (fun q p => fPut p x q) q).1.length ≤ q.1.length + ps.length * 1001000000
  | [], q => by simp
  | p :: ps, q => by
    have h1 := fPuts_len h ps (fPut p x q)
    have h2 := fPut_len h p q
    simp only [List.foldl_cons, List.length_cons]
    omega
theorem teB_len {y : TE} (h : teOk y = true) : (teB y).length ≤ 70000 := by
  simp only [teOk, Bool.and_eq_true, decide_eq_true_eq] at h
  simp only [teB, nmB, List.length_append, List.length_cons, be_length]
  omega
theorem entB_len {x : SE} (h : fitsE x = true) : (entB x).length ≤ 20000000 := by
  have hf : ∀ t : List TE, t.all teOk = true → (t.flatMap teB).length ≤ t.length * 70000 := by
    intro t
    induction t with
    | nil => simp
    | cons y t ih =>
      intro h
      simp only [List.all_cons, Bool.and_eq_true] at h
      have := ih h.2
      have := teB_len h.1
      simp only [List.flatMap_cons, List.length_append, List.length_cons]
      omega
  simp only [fitsE, Bool.and_eq_true, Bool.or_eq_true, Bool.not_eq_true', decide_eq_true_eq] at h
  obtain ⟨f1, f2, f3, f4⟩ := h
  have e1 : (if hasName x.do_ then nmB x.name else []).length ≤ 256 := by
    split
    · rename_i c; have := f1.resolve_left (by simp [c]); simp [nmB]; omega
    · simp
  have e2 : (if hasPath x.do_ then nmB x.path else []).length ≤ 256 := by
    split
    · rename_i c; have := f2.resolve_left (by simp [c]); simp [nmB]; omega
    · simp
  have e3 : (if hasTree x.do_ then treeB x.tree else []).length ≤ 18000000 := by
    split
    · rename_i c
      have g := f3.resolve_left (by simp [c])
      have := hf x.tree g.2
      simp only [treeB, List.length_cons]
      omega
    · simp
  have e4 : (if hasActs x.do_ then be 2 x.acts else []).length ≤ 2 := by
    split
    · rw [be_length]; omega
    · simp
  have e5 : (if hasKeep x.do_ then nmB x.keep else []).length ≤ 256 := by
    split
    · rename_i c; have := f4.resolve_left (by simp [c]); simp [nmB]; omega
    · simp
  simp only [entB, bodyE, List.length_cons, List.length_append]
  omega
theorem allB_len : ∀ {l : List SE}, l.all mayE = true → (allB l).length ≤ l.length * 20000000
  | [], _ => by simp [allB]
  | x :: l, h => by
    simp only [List.all_cons, Bool.and_eq_true] at h
    have h1 := allB_len h.2
    have h2 := entB_len (mayE_fits h.1).1
    simp only [allB, List.flatMap_cons, List.length_append, List.length_cons] at h1 ⊢
    omega
theorem mayE_of {x : SE} : mayE x = (decide (x.do_.toNat ≤ 10) && (fitsE x && decide (normE x = x))) := by
  rw [Bool.eq_iff_iff]
  simp only [Bool.and_eq_true, decide_eq_true_eq]
  exact ⟨fun h => ⟨(mayE_fits h).2, (mayE_fits h).1, mayE_norm h⟩, fun h => norm_mayE h.1 h.2.1 h.2.2⟩
end Go.Proofs.Ytohdljcpaogokaa
namespace Go.Proofs.Ytohdljcpaogokaa
open Go.RowKit Go.SL

/-- a call in memory: its tree's slice -/
structure SV where
  x : SE
  ao : Option Addr
  c : Nat
def SV.cells (v : SV) : List Value := xcells v.x v.ao v.c
def svCells (vs : List SV) : List Value := vs.flatMap SV.cells
def SV.known (l : List HProp) (v : SV) : Prop := Knows l (reads (.slice v.ao v.x.tree.length v.c) v.x.tree.length (treeCells v.x.tree))
theorem svCells_len (vs : List SV) : (svCells vs).length = vs.length * 6 := flatMap_len SV.cells 6 (fun _ => rfl) vs
theorem sv_cells {w : World} {b off n c : Nat} {vs : List SV} (hr : reads (.slice (some ⟨b, off, none⟩) n c) n (svCells vs) w) {i : Nat} (hi : i < vs.length) :
    ∀ j v, (vs[i].cells)[j]? = some v → w.cell? ((⟨b, off + i * 6, none⟩ : Addr).add j) = some v := by
  obtain ⟨ao, c', e, _, h2⟩ := hr
  cases e
  intro j v hv
  have := h2 _ rfl _ _ (flatMap_at SV.cells 6 (fun _ => rfl) vs i j _ v (List.getElem?_eq_getElem hi) hv)
  rw [Addr.add_lit, ← Nat.add_assoc] at this
  rw [Addr.add_lit]
  exact this
def xsOf (vs : List SV) : List SE := vs.map SV.x

theorem piece_puts {d : UInt8} {p : FuncId × FuncId} (hp : p ∈ piecesOf d) {x : SE} (hx : x.okb) {ao : Option Addr} {c b q : Nat} {r : PS} {l : List HProp} {w : World} (hE : Ent (packer q r.1 r.2 :: pt b (.cells (xcells x ao c).toArray 87) :: l) w) (hb : r.1.length ≤ 1000000000000)
    (hk : Knows l (reads (.slice ao x.tree.length c) x.tree.length (treeCells x.tree))) :
    Calls Try.prog p.1 #[.pointer (some ⟨b, 0, none⟩), .pointer (some ⟨q, 0, none⟩)] w (fun e w' => e = .returned (.tuple #[]) ∧ Ent (packer q (fPut p x r).1 (fPut p x r).2 :: pt b (.cells (xcells x ao c).toArray 87) :: l) w') := by
  obtain ⟨hg, ⟨h1, h2, h3⟩, h4, h5⟩ := hx
  rcases pieces_mem hp with rfl | rfl | rfl | rfl | rfl
  · exact putName_any hE (by omega)
  · exact putPath_any hE (by omega)
  · exact putKeep_any hE (by omega)
  · exact putActs_any hg hE (by omega)
  · exact putTree_any hE h5 (by have : x.tree.length * 1000000 ≤ 1000 * 1000000 := Nat.mul_le_mul_right _ h4; omega) (by omega) hk

def SPutRel (vs : List SV) (p : Nat) (l : List HProp) (i : Value) (wr : World) : Prop :=
  ∃ k, k ≤ vs.length ∧ i = .int .i64 k ∧ (xsOf (vs.take k)).all mayE = true ∧ Ent (packer p (allB (xsOf (vs.take k))) 0 :: l) wr
def PkRel (ps : List (FuncId × FuncId)) (x : SE) (q0 : PS) (q b : Nat) (ao : Option Addr) (c : Nat) (l : List HProp) (i : Value) (wr : World) : Prop :=
  ∃ (k : Nat) (r : PS), k ≤ ps.length ∧ i = .int .i64 k ∧ r = (ps.take k).foldl (fun q p => fPut p x q) q0 ∧ Ent (packer q r.1 r.2 :: pt b (.cells (xcells x ao c).toArray 87) :: l) wr
theorem perm_two {m l : List HProp} {A B : HProp} : (m ++ A :: B :: l).Perm (A :: B :: (m ++ l)) :=
  (List.perm_append_comm (l₁ := m) (l₂ := [A, B] ++ l)).trans (by simpa using List.Perm.append_left [A, B] (List.perm_append_comm (l₁ := l) (l₂ := m)))

attribute [-go_sem] Instr.loadAt in
set_option maxRecDepth 100000 in
set_option maxHeartbeats 4000000 in
theorem Puts_any {vs : List SV} {ao : Option Addr} {c : Nat} {l : List HProp} {w : World} (hE : Ent l w) (hn : vs.length ≤ 10000) (hx : ∀ v ∈ vs, v.x.okb)
    (hk : Knows l (reads (.slice ao vs.length c) vs.length (svCells vs))) (hkt : ∀ v ∈ vs, v.known l) :
    Calls Try.prog 11 #[.slice ao vs.length c] w (Ret fun v w' => v = .tuple #[.string ⟨(putS (xsOf vs)).toArray⟩, .int .i64 (putSE (xsOf vs))] ∧ Ent l w') := by
  have Hx := SL.hid hx
  have Hkt := SL.hid hkt
  clear hx hkt
  go_enter Try.func11, Try.ntmps11
  go_wp2_with (first
    | (go_at_call 41; refine (New_any hE).mono ?_; clear hE; rintro e w2 ⟨v, rfl, p, rfl, hE1⟩))
  go_loopw [17] (fun i wr => SPutRel vs p l i wr) (fun i _ => vs.length - (intOf i).toNat)
  case atStart => exact ⟨0, Nat.zero_le _, rfl, rfl, hE1⟩
  case round =>
    clear hE1
    obtain ⟨k, hkl, rfl, hall, hE⟩ := hrel
    have Hall := SL.hid hall
    clear hall
    by_cases hlt : k < vs.length
    · obtain ⟨bt, off, rfl, _⟩ := reads_form (hk _ hE.tail) (by omega) (by rw [svCells_len]; omega)
      have Hcx := SL.hid (sv_cells (hk _ hE.tail) hlt)
      have hv := List.getElem_mem hlt
      have Hok := SL.hid (Hx.out _ hv)
      have Hkv := SL.hid (Hkt.out _ hv)
      have hab := allB_len Hall.out
      have hab2 : (allB (xsOf (vs.take k))).length ≤ 200000000000 := by
        have : (xsOf (vs.take k)).length * 20000000 ≤ 10000 * 20000000 := Nat.mul_le_mul_right _ (by simp only [xsOf, List.length_map, List.length_take]; omega)
        omega
      clear hab
      have Ha := SL.hid (show xsOf (vs.take (k + 1)) = xsOf (vs.take k) ++ [vs[k].x] by rw [xsOf, List.take_succ_eq_append_getElem hlt, List.map_append]; rfl)
      have Hin := SL.hid (show vs[k].x ∈ xsOf vs from List.mem_map.2 ⟨_, hv, rfl⟩)
      clear hv
      generalize vs[k] = v at *
      obtain ⟨x, aox, cx⟩ := v
      simp only [SV.cells, SV.known] at Hcx Hok Hkv Ha Hin
      generalize hbA : allB (xsOf (vs.take k)) = bsA at *
      have HbA := SL.hid hbA
      clear hbA
      have Hdo := SL.hid (pW_do x.do_)
      have hw : IntKind.u64.wrap (x.do_.toNat : Int) = x.do_.toNat := wrapU_id (by have := x.do_.toNat_lt; omega)
      have hP : ∀ {q : Nat} {l : List HProp} {w : World}, Ent (packer q [] 0 :: l) w → Calls Try.prog 42 #[.pointer (some ⟨q, 0, none⟩), .int .i64 1, .int .u64 x.do_.toNat] w (Ret fun v w' => v = .pointer (some ⟨q, 0, none⟩) ∧ Ent (packer q [x.do_] 0 :: l) w') := fun {q l w} h => by
        have := sPut1 (p := q) (n := x.do_.toNat) (q := ([], 0)) h (by simp)
        rwa [Hdo.out] at this
      go_wp2_with (first
        | ((with_reducible (show Go.wpList _ _ _ (Go.Oper.mk _ (.load 87 _) _ _ _ _ :: _) _ _)); refine wpl_loadC rfl rfl rfl Try.isAgg87 Try.sizeOf87 (xcells x aox cx) rfl Hcx.out ?_)
        | ((with_reducible (show Go.wpList _ _ _ (Go.Oper.mk _ (.alloc _) _ _ _ _ :: _) _ _)); refine wpl_alloc hE rfl rfl (by simp [go_sem]; rfl) ?_; clear hE; intro b6 w1 hE1)
        | ((with_reducible (show Go.wpList _ _ _ (Go.Oper.mk _ (.store _ _ _) _ _ _ _ :: _) _ _)); refine wpl_storeW hE1 0 rfl rfl rfl (xs := xcells x aox cx) rfl rfl Try.sizeOf87 rfl (by simp [xcells, Value.oneCell']) rfl ?_; clear hE1; intro w2 hE; simp only [List.set_cons_zero, List.set_cons_succ] at hE))
      refine wp_region_held_drew (S := (fun w' => (Instr.loadAt 5 (.pointer (some ⟨b6, 0, none⟩))).run Try.prog w' = .ok (.int .u8 x.do_.toNat) w')) (by kernel_rfl) (atV hE.drew 0 rfl (by simp [go_sem]) rfl) (fun hS => ?_)
      refine wpAnyH_take (i := 1) (oi := { dst := some 22, op := Go.Op.fieldAddr 87 (Go.Operand.tmp 6) 0, type := 0, pos := "script.go:104", after := #[], guard := none }) (v := ?_) rfl (by kernel_rfl) (by kernel_rfl) (by kernel_rfl) (fun _ _ _ h => h) (Or.inl ⟨by rfl, ?_⟩) hS ?_
      rotate_left
      · (intro w hSw; (try dsimp only at hSw); go_simp; (try with_reducible rfl))
      try simp only [Act.put, List.setIfInBounds_toArray, List.set_cons_zero, List.set_cons_succ]
      refine wpAnyH_take (i := 2) (oi := { dst := some 23, op := Go.Op.load 5 (Go.Operand.tmp 22), type := 5, pos := "script.go:104", after := #[{ on := 1, ground := Go.Ground.data }], guard := none }) (v := ?_) rfl (by kernel_rfl) (by kernel_rfl) (by kernel_rfl) (fun _ _ _ h => h) (Or.inl ⟨by rfl, ?_⟩) hS ?_
      rotate_left
      · (intro w hSw; (try dsimp only at hSw); go_simp; (try with_reducible rfl))
      try simp only [Act.put, List.setIfInBounds_toArray, List.set_cons_zero, List.set_cons_succ]
      refine wpAnyH_take (i := 3) (oi := { dst := some 24, op := Go.Op.convert 5 91 (Go.Operand.tmp 23), type := 91, pos := "script.go:104", after := #[{ on := 2, ground := Go.Ground.data }], guard := none }) (v := ?_) rfl (by kernel_rfl) (by kernel_rfl) (by kernel_rfl) (fun _ _ _ h => h) (Or.inl ⟨by rfl, ?_⟩) hS ?_
      rotate_left
      · (intro w hSw; (try dsimp only at hSw); go_simp; (try with_reducible rfl))
      try simp only [Act.put, List.setIfInBounds_toArray, List.set_cons_zero, List.set_cons_succ]
      refine wpAnyH_ready (rs := [0]) (by kernel_rfl) (by simp) ?_
      refine (AllReadyH.cons (o := { dst := some 21, op := Go.Op.call { callee := Go.Callee.value (Go.Operand.func 41), args := #[], argTypes := #[] }, type := 88, pos := "script.go:104", after := #[], guard := none }) rfl (fun K hK => ?_) AllReadyH.nil)
      (go_simp; refine (New_any hE.drew).mono ?_; rintro e w3 ⟨v, rfl, q, rfl, hE3⟩)
      refine hK.out _ _ (atV hE3 1 rfl (by simp [go_sem]) rfl) (fun hS => ?_)
      clear hK K
      try simp only [Act.put, List.setIfInBounds_toArray, List.set_cons_zero, List.set_cons_succ]
      refine wpAnyH_ready (rs := [4]) (by kernel_rfl) (by simp) ?_
      refine (AllReadyH.cons (o := { dst := some 25, op := Go.Op.call { callee := Go.Callee.value (Go.Operand.func 42), args := #[Go.Operand.tmp 21, Go.Operand.const (Go.Value.int Go.IntKind.i64 1), Go.Operand.tmp 24], argTypes := #[88, 3, 91] }, type := 88, pos := "script.go:104", after := #[{ on := 0, ground := Go.Ground.data }, { on := 3, ground := Go.Ground.data }, { on := 0, ground := Go.Ground.chain }], guard := none }) rfl (fun K hK => ?_) AllReadyH.nil)
      (go_simp; refine (hP hE3).mono ?_; rintro e w4 ⟨v, rfl, rfl, hE4⟩)
      refine hK.out _ _ (atV hE4 1 rfl (by simp [go_sem]) rfl) (fun hS => ?_)
      clear hK K
      try simp only [Act.put, List.setIfInBounds_toArray, List.set_cons_zero, List.set_cons_succ]
      refine wpAnyH_take (i := 5) (oi := { dst := some 7, op := Go.Op.assign (Go.Operand.tmp 25), type := 88, pos := "script.go:104", after := #[{ on := 4, ground := Go.Ground.data }, { on := 4, ground := Go.Ground.chain }, { on := 0, ground := Go.Ground.phase }, { on := 1, ground := Go.Ground.phase }, { on := 2, ground := Go.Ground.phase }, { on := 3, ground := Go.Ground.phase }, { on := 4, ground := Go.Ground.phase }], guard := none }) (v := ?_) rfl (by kernel_rfl) (by kernel_rfl) (by kernel_rfl) (fun _ _ _ h => h) (Or.inl ⟨by rfl, ?_⟩) hS ?_
      rotate_left
      · (intro w hSw; (try dsimp only at hSw); go_simp; (try with_reducible rfl))
      try simp only [Act.put, List.setIfInBounds_toArray, List.set_cons_zero, List.set_cons_succ]
      refine wpAnyH_done (by kernel_rfl) ?_ _
      clear hE
      go_wp2_with (first
        | ((with_reducible (show Go.wpList _ _ _ (Go.Oper.mk _ (.load _ _) _ _ _ _ :: _) _ _)); refine wpl_load1 hE4 1 rfl rfl rfl rfl (by simp [go_sem]) rfl ?_)
        | (go_at_call 43; refine (pieces_any x.do_ hE4).mono ?_; clear hE4; rintro e w5 ⟨v, rfl, aop, cp, m, rfl, hE5, hkp⟩))
      have hE6 := hE5.perm perm_two
      clear hE5
      have hk2 : ∀ A : HProp, Knows (m ++ A :: l) (reads (.slice aop (piecesOf x.do_).length cp) (piecesOf x.do_).length (pieceCells (piecesOf x.do_))) := fun A => Knows.left hkp
      clear hkp
      have htwo := pieces_two x.do_
      have HpE := SL.hid (show (piecesOf x.do_).foldl (fun q p => fPut p x q) ([x.do_], 0) = putE x by rw [putE, Hdo.out])
      have Hkx := SL.hid (show ∀ A : HProp, Knows (m ++ A :: l) (reads (.slice aox x.tree.length cx) x.tree.length (treeCells x.tree)) from fun A => (Hkv.out.cons).append)
      generalize hps : piecesOf x.do_ = ps at *
      go_loopw [30] (fun i wr => PkRel ps x ([x.do_], 0) q b6 aox cx (m ++ (packer p bsA 0 :: l)) i wr) (fun i _ => ps.length - (intOf i).toNat)
      case atStart => exact ⟨0, _, Nat.zero_le _, rfl, rfl, hE6⟩
      case round =>
        clear hE6
        obtain ⟨j, r, hjl, rfl, hr, hE⟩ := hrel
        by_cases hlt2 : j < ps.length
        · obtain ⟨bt2, off2, rfl, _⟩ := reads_form (hk2 _ _ hE.tail.tail) (by omega) (by rw [pieceCells_len]; omega)
          have Hcp := SL.hid (piece_cells (hk2 _ _ hE.tail.tail) hlt2)
          have hlen := fPuts_len Hok.out (ps.take j) ([x.do_], 0)
          rw [← hr] at hlen
          have hl2 : (ps.take j).length ≤ 2 := by rw [List.length_take]; omega
          simp only [List.length_cons, List.length_nil] at hlen
          have hqb : r.1.length ≤ 1000000000000 := by omega
          clear hlen hl2
          have Hs := SL.hid (show (ps.take (j + 1)).foldl (fun q p => fPut p x q) ([x.do_], 0) = fPut ps[j] x r by rw [List.take_succ_eq_append_getElem hlt2, List.foldl_append, ← hr]; rfl)
          have hpm : ps[j] ∈ piecesOf x.do_ := by rw [hps]; exact List.getElem_mem hlt2
          clear hr
          generalize ps[j] = pc at *
          have hcall := (piece_call hpm).1
          have hT : ∀ {w : World}, Ent (packer q r.1 r.2 :: pt b6 (.cells (xcells x aox cx).toArray 87) :: (m ++ (packer p bsA 0 :: l))) w → Calls Try.prog pc.1 #[.pointer (some ⟨b6, 0, none⟩), .pointer (some ⟨q, 0, none⟩)] w (fun e w' => e = .returned (.tuple #[]) ∧ Ent (packer q (fPut pc x r).1 (fPut pc x r).2 :: pt b6 (.cells (xcells x aox cx).toArray 87) :: (m ++ (packer p bsA 0 :: l))) w') := fun h => piece_puts hpm Hok.out h hqb (Hkx.out _)
          clear hpm
          have Hpc := SL.hid (show pcells pc = [.func (Fn.func pc.1) #[] #[], .func (Fn.func pc.2) #[] #[]] from rfl)
          generalize fPut pc x r = r2 at *
          go_wp2_with (first
            | ((with_reducible (show Go.wpList _ _ _ (Go.Oper.mk _ (.load 97 _) _ _ _ _ :: _) _ _)); refine wpl_loadC rfl rfl rfl Try.isAgg97 Try.sizeOf97 [.func (Fn.func pc.1) #[] #[], .func (Fn.func pc.2) #[] #[]] rfl Hcp.out ?_)
            | ((with_reducible (show Go.wpList _ _ _ (Go.Oper.mk _ (.alloc _) _ _ _ _ :: _) _ _)); refine wpl_alloc hE rfl rfl (by simp [go_sem]; rfl) ?_; clear hE; intro b5 w1 hE1)
            | ((with_reducible (show Go.wpList _ _ _ (Go.Oper.mk _ (.store _ _ _) _ _ _ _ :: _) _ _)); refine wpl_storeW hE1 0 rfl rfl rfl (xs := [.func (Fn.func pc.1) #[] #[], .func (Fn.func pc.2) #[] #[]]) rfl rfl Try.sizeOf97 rfl (by simp [Value.oneCell']) rfl ?_; clear hE1; intro w2 hE2; simp only [List.set_cons_zero, List.set_cons_succ] at hE2)
            | ((with_reducible (show Go.wpList _ _ _ (Go.Oper.mk _ (.load _ _) _ _ _ _ :: _) _ _)); refine wpl_load1 hE2 0 rfl rfl rfl rfl (by simp [go_sem]) rfl ?_))
          refine (hT hE2.tail).mono ?_
          rintro e w3 ⟨rfl, hE3⟩
          go_wp2
          go_roundw
          case rel => exact ⟨j + 1, r2, hlt2, by simp, Hs.out.symm, hE3⟩
          case measure => simp [intOf]; omega
        · have e : j = ps.length := by omega
          rw [e, List.take_length, HpE.out] at hr
          subst hr
          clear e hk2 hps
          have Hno := SL.hid (show mayE x = false → putS (xsOf vs) = [] ∧ putSE (xsOf vs) = 3 from fun h => by
            have : (xsOf vs).all mayE = false := List.all_eq_false.2 ⟨x, Hin.out, by simp [h]⟩
            simp [putS, putSE, this])
          cases hf : fitsE x with
          | false =>
            have hr0 := (putE_fits Hok.out.1).2 hf
            have hrz : ((putE x).2 == 0) = false := by simpa using hr0
            have hrn : ((putE x).2 != 0) = true := by simpa using hr0
            have Hm := SL.hid (show mayE x = false by rw [mayE_of, hf]; simp)
            clear hf hr0
            generalize putE x = r at *
            go_wp2_with (first
              | (go_at_call 44; refine (Bytes_err hrz hE).mono ?_; clear hE; rintro e w3 ⟨v, rfl, rfl, hE3⟩))
            refine wp_region_held_drew (S := (fun _ => True)) (by kernel_rfl) trivial (fun hS => ?_)
            refine wpAnyH_take (i := 0) (oi := { dst := some 44, op := Go.Op.move (Go.Operand.tmp 11), type := 25, pos := "script.go:109", after := #[], guard := none }) (v := ?_) rfl (by kernel_rfl) (by kernel_rfl) (by kernel_rfl) (fun _ _ _ h => h) (Or.inl ⟨by rfl, ?_⟩) hS ?_
            rotate_left
            · (intro w hSw; (try dsimp only at hSw); go_simp; (try with_reducible rfl))
            try simp only [Act.put, List.setIfInBounds_toArray, List.set_cons_zero, List.set_cons_succ]
            refine wpAnyH_take (i := 1) (oi := { dst := some 45, op := Go.Op.binOp Go.BinOp.neq 25 (Go.Operand.tmp 44) (Go.Operand.const (Go.Value.int Go.IntKind.i64 0)) 25, type := 4, pos := "script.go:109", after := #[{ on := 0, ground := Go.Ground.data }], guard := none }) (v := ?_) rfl (by kernel_rfl) (by kernel_rfl) (by kernel_rfl) (fun _ _ _ h => h) (Or.inl ⟨by rfl, ?_⟩) hS ?_
            rotate_left
            · (intro w hSw; (try dsimp only at hSw); go_simp; (try with_reducible rfl))
            try simp only [Act.put, List.setIfInBounds_toArray, List.set_cons_zero, List.set_cons_succ]
            refine wpAnyH_take (i := 2) (oi := { dst := some 46, op := Go.Op.move (Go.Operand.tmp 45), type := 4, pos := "script.go:109", after := #[{ on := 1, ground := Go.Ground.data }], guard := none }) (v := ?_) rfl (by kernel_rfl) (by kernel_rfl) (by kernel_rfl) (fun _ _ _ h => h) (Or.inl ⟨by rfl, ?_⟩) hS ?_
            rotate_left
            · (intro w hSw; (try dsimp only at hSw); go_simp; (try with_reducible rfl))
            try simp only [Act.put, List.setIfInBounds_toArray, List.set_cons_zero, List.set_cons_succ]
            refine wpAnyH_take (i := 3) (oi := { dst := some 47, op := Go.Op.fieldAddr 87 (Go.Operand.tmp 6) 0, type := 0, pos := "script.go:109", after := #[{ on := 2, ground := Go.Ground.guard }], guard := some (2, false) }) (v := undef) rfl (by kernel_rfl) (by kernel_rfl) (by kernel_rfl) (fun _ _ _ h => h) (Or.inr ⟨by rfl, rfl⟩) hS ?_
            try simp only [Act.put, List.setIfInBounds_toArray, List.set_cons_zero, List.set_cons_succ]
            refine wpAnyH_take (i := 4) (oi := { dst := some 48, op := Go.Op.load 5 (Go.Operand.tmp 47), type := 5, pos := "script.go:109", after := #[{ on := 3, ground := Go.Ground.data }, { on := 2, ground := Go.Ground.guard }], guard := some (2, false) }) (v := undef) rfl (by kernel_rfl) (by kernel_rfl) (by kernel_rfl) (fun _ _ _ h => h) (Or.inr ⟨by rfl, rfl⟩) hS ?_
            try simp only [Act.put, List.setIfInBounds_toArray, List.set_cons_zero, List.set_cons_succ]
            refine wpAnyH_take (i := 5) (oi := { dst := some 49, op := Go.Op.binOp Go.BinOp.gtr 5 (Go.Operand.tmp 48) (Go.Operand.const (Go.Value.int Go.IntKind.u8 10)) 5, type := 4, pos := "script.go:109", after := #[{ on := 4, ground := Go.Ground.data }, { on := 2, ground := Go.Ground.guard }], guard := some (2, false) }) (v := undef) rfl (by kernel_rfl) (by kernel_rfl) (by kernel_rfl) (fun _ _ _ h => h) (Or.inr ⟨by rfl, rfl⟩) hS ?_
            try simp only [Act.put, List.setIfInBounds_toArray, List.set_cons_zero, List.set_cons_succ]
            refine wpAnyH_take (i := 6) (oi := { dst := some 50, op := Go.Op.pick (Go.Operand.tmp 46) (Go.Operand.const (Go.Value.bool true)) (Go.Operand.tmp 49), type := 4, pos := "script.go:109", after := #[{ on := 2, ground := Go.Ground.data }, { on := 5, ground := Go.Ground.data }], guard := none }) (v := ?_) rfl (by kernel_rfl) (by kernel_rfl) (by kernel_rfl) (fun _ _ _ h => h) (Or.inl ⟨by rfl, ?_⟩) hS ?_
            rotate_left
            · (intro w hSw; (try dsimp only at hSw); go_simp; (try with_reducible rfl))
            try simp only [Act.put, List.setIfInBounds_toArray, List.set_cons_zero, List.set_cons_succ]
            refine wpAnyH_take (i := 7) (oi := { dst := some 51, op := Go.Op.move (Go.Operand.tmp 50), type := 4, pos := "script.go:109", after := #[{ on := 6, ground := Go.Ground.data }, { on := 2, ground := Go.Ground.chain }], guard := none }) (v := ?_) rfl (by kernel_rfl) (by kernel_rfl) (by kernel_rfl) (fun _ _ _ h => h) (Or.inl ⟨by rfl, ?_⟩) hS ?_
            rotate_left
            · (intro w hSw; (try dsimp only at hSw); go_simp; (try with_reducible rfl))
            try simp only [Act.put, List.setIfInBounds_toArray, List.set_cons_zero, List.set_cons_succ]
            refine wpAnyH_take (i := 8) (oi := { dst := some 52, op := Go.Op.move (Go.Operand.tmp 10), type := 42, pos := "script.go:109", after := #[{ on := 7, ground := Go.Ground.guard }], guard := some (7, false) }) (v := undef) rfl (by kernel_rfl) (by kernel_rfl) (by kernel_rfl) (fun _ _ _ h => h) (Or.inr ⟨by rfl, rfl⟩) hS ?_
            try simp only [Act.put, List.setIfInBounds_toArray, List.set_cons_zero, List.set_cons_succ]
            refine wpAnyH_take (i := 9) (oi := { dst := some 53, op := Go.Op.call { callee := Go.Callee.value (Go.Operand.func 47), args := #[Go.Operand.tmp 52], argTypes := #[42] }, type := 102, pos := "script.go:109", after := #[{ on := 8, ground := Go.Ground.data }, { on := 7, ground := Go.Ground.chain }, { on := 7, ground := Go.Ground.guard }], guard := some (7, false) }) (v := undef) rfl (by kernel_rfl) (by kernel_rfl) (by kernel_rfl) (fun _ _ _ h => h) (Or.inr ⟨by rfl, rfl⟩) hS ?_
            try simp only [Act.put, List.setIfInBounds_toArray, List.set_cons_zero, List.set_cons_succ]
            refine wpAnyH_take (i := 10) (oi := { dst := some 54, op := Go.Op.call { callee := Go.Callee.value (Go.Operand.func 46), args := #[Go.Operand.tmp 53], argTypes := #[102] }, type := 87, pos := "script.go:109", after := #[{ on := 9, ground := Go.Ground.data }, { on := 9, ground := Go.Ground.chain }, { on := 7, ground := Go.Ground.guard }], guard := some (7, false) }) (v := undef) rfl (by kernel_rfl) (by kernel_rfl) (by kernel_rfl) (fun _ _ _ h => h) (Or.inr ⟨by rfl, rfl⟩) hS ?_
            try simp only [Act.put, List.setIfInBounds_toArray, List.set_cons_zero, List.set_cons_succ]
            refine wpAnyH_take (i := 11) (oi := { dst := some 55, op := Go.Op.load 87 (Go.Operand.tmp 6), type := 87, pos := "script.go:109", after := #[{ on := 7, ground := Go.Ground.guard }], guard := some (7, false) }) (v := undef) rfl (by kernel_rfl) (by kernel_rfl) (by kernel_rfl) (fun _ _ _ h => h) (Or.inr ⟨by rfl, rfl⟩) hS ?_
            try simp only [Act.put, List.setIfInBounds_toArray, List.set_cons_zero, List.set_cons_succ]
            refine wpAnyH_take (i := 12) (oi := { dst := some 56, op := Go.Op.call { callee := Go.Callee.value (Go.Operand.func 45), args := #[Go.Operand.tmp 54, Go.Operand.tmp 55], argTypes := #[87, 87] }, type := 4, pos := "script.go:109", after := #[{ on := 10, ground := Go.Ground.data }, { on := 11, ground := Go.Ground.data }, { on := 10, ground := Go.Ground.chain }, { on := 7, ground := Go.Ground.guard }], guard := some (7, false) }) (v := undef) rfl (by kernel_rfl) (by kernel_rfl) (by kernel_rfl) (fun _ _ _ h => h) (Or.inr ⟨by rfl, rfl⟩) hS ?_
            try simp only [Act.put, List.setIfInBounds_toArray, List.set_cons_zero, List.set_cons_succ]
            refine wpAnyH_take (i := 13) (oi := { dst := some 57, op := Go.Op.unOp Go.UnOp.not 4 (Go.Operand.tmp 56), type := 4, pos := "script.go:109", after := #[{ on := 12, ground := Go.Ground.data }, { on := 7, ground := Go.Ground.guard }], guard := some (7, false) }) (v := undef) rfl (by kernel_rfl) (by kernel_rfl) (by kernel_rfl) (fun _ _ _ h => h) (Or.inr ⟨by rfl, rfl⟩) hS ?_
            try simp only [Act.put, List.setIfInBounds_toArray, List.set_cons_zero, List.set_cons_succ]
            refine wpAnyH_take (i := 14) (oi := { dst := some 58, op := Go.Op.pick (Go.Operand.tmp 51) (Go.Operand.const (Go.Value.bool true)) (Go.Operand.tmp 57), type := 4, pos := "script.go:109", after := #[{ on := 7, ground := Go.Ground.data }, { on := 13, ground := Go.Ground.data }], guard := none }) (v := ?_) rfl (by kernel_rfl) (by kernel_rfl) (by kernel_rfl) (fun _ _ _ h => h) (Or.inl ⟨by rfl, ?_⟩) hS ?_
            rotate_left
            · (intro w hSw; (try dsimp only at hSw); go_simp; (try with_reducible rfl))
            try simp only [Act.put, List.setIfInBounds_toArray, List.set_cons_zero, List.set_cons_succ]
            refine wpAnyH_done (by kernel_rfl) ?_ _
            go_wp2
            go_ret2
            exact ⟨_, rfl, by rw [(Hno.out Hm.out).1, (Hno.out Hm.out).2]; rfl, hE3.drew.tail.tail.drop.tail⟩
          | true =>
            have hrt := (putE_fits Hok.out.1).1 hf
            rw [hrt] at hE
            clear hrt
            simp only at hE
            have hel := entB_len hf
            by_cases h10 : x.do_.toNat ≤ 10
            · have hd : decide ((10 : Int) < (x.do_.toNat : Int)) = false := decide_eq_false (by omega)
              have Hpt := SL.hid (pent_put Hok.out.1 hf [])
              have Hmm := SL.hid (show mayE x = decide (normE x = x) by rw [mayE_of, hf, decide_eq_true h10, Bool.true_and, Bool.true_and])
              have Hnl : (normE x).tree.length ≤ 1000000 := by
                have := Hok.out.2.2.1
                unfold normE
                simp only
                split
                · omega
                · simp
              have Hsm := SL.hid (show sameE (normE x) x = decide (normE x = x) by rw [Bool.eq_iff_iff, sameE_iff, decide_eq_true_eq])
              rw [List.append_nil] at Hpt
              have Hep := SL.hid (show allB (xsOf (vs.take k) ++ [x]) = allB (xsOf (vs.take k)) ++ entB x by simp [allB])
              clear hf
              generalize entB x = eb at *
              have hTk : ∀ {o : Nat} {l : List HProp} {w : World}, Ent (opener o eb 0 :: l) w → Calls Try.prog 46 #[.pointer (some ⟨o, 0, none⟩)] w (Ret fun v w' => ∃ ao c, v = .agg (xcells (normE x) ao c).toArray ∧ Ent (opener o [] 0 :: trow ao c (normE x).tree :: l) w') := fun {o l w} h => by
                have := take_any (s := ⟨eb, 0⟩) h (by simp only; omega)
                rwa [Hpt.out] at this
              generalize normE x = y at *
              go_wp2_with (first
                | (go_at_call 44; refine (Bytes_ok hE (by omega)).mono ?_; clear hE; rintro e w3 ⟨v, rfl, ao2, c2, rfl, hE3⟩))
              refine wp_region_held_drew (S := (fun w' => (Instr.loadAt 5 (.pointer (some ⟨b6, 0, none⟩))).run Try.prog w' = .ok (.int .u8 x.do_.toNat) w' ∧ (Instr.loadAt 87 (.pointer (some ⟨b6, 0, none⟩))).run Try.prog w' = .ok (.agg (xcells x aox cx).toArray) w')) (by kernel_rfl) ⟨atV hE3.drew 2 rfl (by simp [go_sem]) rfl, atA hE3.drew 2 rfl Try.isAgg87 Try.sizeOf87 (off := 0) rfl (fun j _ ↦ by simp)⟩ (fun hS => ?_)
              refine wpAnyH_take (i := 0) (oi := { dst := some 44, op := Go.Op.move (Go.Operand.tmp 11), type := 25, pos := "script.go:109", after := #[], guard := none }) (v := ?_) rfl (by kernel_rfl) (by kernel_rfl) (by kernel_rfl) (fun _ _ _ h => h) (Or.inl ⟨by rfl, ?_⟩) hS ?_
              rotate_left
              · (intro w hSw; (try dsimp only at hSw); go_simp; (try with_reducible rfl))
              try simp only [Act.put, List.setIfInBounds_toArray, List.set_cons_zero, List.set_cons_succ]
              refine wpAnyH_take (i := 1) (oi := { dst := some 45, op := Go.Op.binOp Go.BinOp.neq 25 (Go.Operand.tmp 44) (Go.Operand.const (Go.Value.int Go.IntKind.i64 0)) 25, type := 4, pos := "script.go:109", after := #[{ on := 0, ground := Go.Ground.data }], guard := none }) (v := ?_) rfl (by kernel_rfl) (by kernel_rfl) (by kernel_rfl) (fun _ _ _ h => h) (Or.inl ⟨by rfl, ?_⟩) hS ?_
              rotate_left
              · (intro w hSw; (try dsimp only at hSw); go_simp; (try with_reducible rfl))
              try simp only [Act.put, List.setIfInBounds_toArray, List.set_cons_zero, List.set_cons_succ]
              refine wpAnyH_take (i := 2) (oi := { dst := some 46, op := Go.Op.move (Go.Operand.tmp 45), type := 4, pos := "script.go:109", after := #[{ on := 1, ground := Go.Ground.data }], guard := none }) (v := ?_) rfl (by kernel_rfl) (by kernel_rfl) (by kernel_rfl) (fun _ _ _ h => h) (Or.inl ⟨by rfl, ?_⟩) hS ?_
              rotate_left
              · (intro w hSw; (try dsimp only at hSw); go_simp; (try with_reducible rfl))
              try simp only [Act.put, List.setIfInBounds_toArray, List.set_cons_zero, List.set_cons_succ]
              refine wpAnyH_take (i := 3) (oi := { dst := some 47, op := Go.Op.fieldAddr 87 (Go.Operand.tmp 6) 0, type := 0, pos := "script.go:109", after := #[{ on := 2, ground := Go.Ground.guard }], guard := some (2, false) }) (v := ?_) rfl (by kernel_rfl) (by kernel_rfl) (by kernel_rfl) (fun _ _ _ h => h) (Or.inl ⟨by rfl, ?_⟩) hS ?_
              rotate_left
              · (intro w hSw; (try dsimp only at hSw); go_simp; (try with_reducible rfl))
              try simp only [Act.put, List.setIfInBounds_toArray, List.set_cons_zero, List.set_cons_succ]
              refine wpAnyH_take (i := 4) (oi := { dst := some 48, op := Go.Op.load 5 (Go.Operand.tmp 47), type := 5, pos := "script.go:109", after := #[{ on := 3, ground := Go.Ground.data }, { on := 2, ground := Go.Ground.guard }], guard := some (2, false) }) (v := ?_) rfl (by kernel_rfl) (by kernel_rfl) (by kernel_rfl) (fun _ _ _ h => h) (Or.inl ⟨by rfl, ?_⟩) hS ?_
              rotate_left
              · (intro w hSw; (try dsimp only at hSw); go_simp; (try with_reducible rfl))
              try simp only [Act.put, List.setIfInBounds_toArray, List.set_cons_zero, List.set_cons_succ]
              refine wpAnyH_take (i := 5) (oi := { dst := some 49, op := Go.Op.binOp Go.BinOp.gtr 5 (Go.Operand.tmp 48) (Go.Operand.const (Go.Value.int Go.IntKind.u8 10)) 5, type := 4, pos := "script.go:109", after := #[{ on := 4, ground := Go.Ground.data }, { on := 2, ground := Go.Ground.guard }], guard := some (2, false) }) (v := ?_) rfl (by kernel_rfl) (by kernel_rfl) (by kernel_rfl) (fun _ _ _ h => h) (Or.inl ⟨by rfl, ?_⟩) hS ?_
              rotate_left
              · (intro w hSw; (try dsimp only at hSw); go_simp; (try with_reducible rfl))
              try simp only [Act.put, List.setIfInBounds_toArray, List.set_cons_zero, List.set_cons_succ]
              refine wpAnyH_take (i := 6) (oi := { dst := some 50, op := Go.Op.pick (Go.Operand.tmp 46) (Go.Operand.const (Go.Value.bool true)) (Go.Operand.tmp 49), type := 4, pos := "script.go:109", after := #[{ on := 2, ground := Go.Ground.data }, { on := 5, ground := Go.Ground.data }], guard := none }) (v := ?_) rfl (by kernel_rfl) (by kernel_rfl) (by kernel_rfl) (fun _ _ _ h => h) (Or.inl ⟨by rfl, ?_⟩) hS ?_
              rotate_left
              · (intro w hSw; (try dsimp only at hSw); go_simp; (try with_reducible rfl))
              try simp only [Act.put, List.setIfInBounds_toArray, List.set_cons_zero, List.set_cons_succ]
              refine wpAnyH_take (i := 7) (oi := { dst := some 51, op := Go.Op.move (Go.Operand.tmp 50), type := 4, pos := "script.go:109", after := #[{ on := 6, ground := Go.Ground.data }, { on := 2, ground := Go.Ground.chain }], guard := none }) (v := ?_) rfl (by kernel_rfl) (by kernel_rfl) (by kernel_rfl) (fun _ _ _ h => h) (Or.inl ⟨by rfl, ?_⟩) hS ?_
              rotate_left
              · (intro w hSw; (try dsimp only at hSw); go_simp; (try with_reducible rfl))
              try simp only [Act.put, List.setIfInBounds_toArray, List.set_cons_zero, List.set_cons_succ]
              refine wpAnyH_take (i := 8) (oi := { dst := some 52, op := Go.Op.move (Go.Operand.tmp 10), type := 42, pos := "script.go:109", after := #[{ on := 7, ground := Go.Ground.guard }], guard := some (7, false) }) (v := ?_) rfl (by kernel_rfl) (by kernel_rfl) (by kernel_rfl) (fun _ _ _ h => h) (Or.inl ⟨by rfl, ?_⟩) hS ?_
              rotate_left
              · (intro w hSw; (try dsimp only at hSw); go_simp; (try with_reducible rfl))
              try simp only [Act.put, List.setIfInBounds_toArray, List.set_cons_zero, List.set_cons_succ]
              refine wpAnyH_take (i := 11) (oi := { dst := some 55, op := Go.Op.load 87 (Go.Operand.tmp 6), type := 87, pos := "script.go:109", after := #[{ on := 7, ground := Go.Ground.guard }], guard := some (7, false) }) (v := ?_) rfl (by kernel_rfl) (by kernel_rfl) (by kernel_rfl) (fun _ _ _ h => h) (Or.inl ⟨by rfl, ?_⟩) hS ?_
              rotate_left
              · (intro w hSw; (try dsimp only at hSw); go_simp; (try with_reducible rfl))
              try simp only [Act.put, List.setIfInBounds_toArray, List.set_cons_zero, List.set_cons_succ]
              refine wpAnyH_ready (rs := [9]) (by kernel_rfl) (by simp) ?_
              refine (AllReadyH.cons (o := { dst := some 53, op := Go.Op.call { callee := Go.Callee.value (Go.Operand.func 47), args := #[Go.Operand.tmp 52], argTypes := #[42] }, type := 102, pos := "script.go:109", after := #[{ on := 8, ground := Go.Ground.data }, { on := 7, ground := Go.Ground.chain }, { on := 7, ground := Go.Ground.guard }], guard := some (7, false) }) rfl (fun K hK => ?_) AllReadyH.nil)
              (go_simp; refine (Of_any hE3.drew (fun w h ↦ reads_row h 0 rfl) (by omega)).mono ?_; rintro e w5 ⟨v, rfl, o, rfl, hE5⟩)
              refine hK.out _ _ ⟨atV hE5 3 rfl (by simp [go_sem]) rfl, atA hE5 3 rfl Try.isAgg87 Try.sizeOf87 (off := 0) rfl (fun j _ ↦ by simp)⟩ (fun hS => ?_)
              clear hK K
              try simp only [Act.put, List.setIfInBounds_toArray, List.set_cons_zero, List.set_cons_succ]
              refine wpAnyH_ready (rs := [10]) (by kernel_rfl) (by simp) ?_
              refine (AllReadyH.cons (o := { dst := some 54, op := Go.Op.call { callee := Go.Callee.value (Go.Operand.func 46), args := #[Go.Operand.tmp 53], argTypes := #[102] }, type := 87, pos := "script.go:109", after := #[{ on := 9, ground := Go.Ground.data }, { on := 9, ground := Go.Ground.chain }, { on := 7, ground := Go.Ground.guard }], guard := some (7, false) }) rfl (fun K hK => ?_) AllReadyH.nil)
              (go_simp; refine (hTk hE5).mono ?_; rintro e w6 ⟨v, rfl, at_, ct, rfl, hE6⟩)
              refine hK.out _ _ ⟨atV hE6 4 rfl (by simp [go_sem]) rfl, atA hE6 4 rfl Try.isAgg87 Try.sizeOf87 (off := 0) rfl (fun j _ ↦ by simp)⟩ (fun hS => ?_)
              clear hK K
              try simp only [Act.put, List.setIfInBounds_toArray, List.set_cons_zero, List.set_cons_succ]
              refine wpAnyH_ready (rs := [12]) (by kernel_rfl) (by simp) ?_
              refine (AllReadyH.cons (o := { dst := some 56, op := Go.Op.call { callee := Go.Callee.value (Go.Operand.func 45), args := #[Go.Operand.tmp 54, Go.Operand.tmp 55], argTypes := #[87, 87] }, type := 4, pos := "script.go:109", after := #[{ on := 10, ground := Go.Ground.data }, { on := 11, ground := Go.Ground.data }, { on := 10, ground := Go.Ground.chain }, { on := 7, ground := Go.Ground.guard }], guard := some (7, false) }) rfl (fun K hK => ?_) AllReadyH.nil)
              (go_simp; refine (same_any (x := y) (y := x) Hnl hE6 (fun w h ↦ reads_row h 1 rfl) ((Hkx.out _).cons.cons.cons.cons.cons)).mono ?_; rintro e w7 ⟨v, rfl, rfl, hE7⟩)
              refine hK.out _ _ ⟨atV hE7 4 rfl (by simp [go_sem]) rfl, atA hE7 4 rfl Try.isAgg87 Try.sizeOf87 (off := 0) rfl (fun j _ ↦ by simp)⟩ (fun hS => ?_)
              clear hK K
              try simp only [Act.put, List.setIfInBounds_toArray, List.set_cons_zero, List.set_cons_succ]
              refine wpAnyH_take (i := 13) (oi := { dst := some 57, op := Go.Op.unOp Go.UnOp.not 4 (Go.Operand.tmp 56), type := 4, pos := "script.go:109", after := #[{ on := 12, ground := Go.Ground.data }, { on := 7, ground := Go.Ground.guard }], guard := some (7, false) }) (v := ?_) rfl (by kernel_rfl) (by kernel_rfl) (by kernel_rfl) (fun _ _ _ h => h) (Or.inl ⟨by rfl, ?_⟩) hS ?_
              rotate_left
              · (intro w hSw; (try dsimp only at hSw); go_simp; (try with_reducible rfl))
              try simp only [Act.put, List.setIfInBounds_toArray, List.set_cons_zero, List.set_cons_succ]
              refine wpAnyH_take (i := 14) (oi := { dst := some 58, op := Go.Op.pick (Go.Operand.tmp 51) (Go.Operand.const (Go.Value.bool true)) (Go.Operand.tmp 57), type := 4, pos := "script.go:109", after := #[{ on := 7, ground := Go.Ground.data }, { on := 13, ground := Go.Ground.data }], guard := none }) (v := ?_) rfl (by kernel_rfl) (by kernel_rfl) (by kernel_rfl) (fun _ _ _ h => h) (Or.inl ⟨by rfl, ?_⟩) hS ?_
              rotate_left
              · (intro w hSw; (try dsimp only at hSw); go_simp; (try with_reducible rfl))
              try simp only [Act.put, List.setIfInBounds_toArray, List.set_cons_zero, List.set_cons_succ]
              refine wpAnyH_done (by kernel_rfl) ?_ _
              cases hs : sameE y x with
              | false =>
                have Hm := SL.hid (show mayE x = false by rw [Hmm.out, ← Hsm.out, hs])
                go_wp2
                go_ret2
                exact ⟨_, rfl, by rw [(Hno.out Hm.out).1, (Hno.out Hm.out).2]; rfl, hE7.tail.tail.tail.tail.tail.drop.tail⟩
              | true =>
                have Hm := SL.hid (show mayE x = true by rw [Hmm.out, ← Hsm.out, hs])
                have hq2 : bsA.length + eb.length ≤ 1099511627776 := by omega
                go_wp2_with (first
                  | ((with_reducible (show Go.wpList _ _ _ (Go.Oper.mk _ (.convert _ _ _) _ _ _ _ :: _) _ _)); refine wpl_bytesStr (bs := eb) rfl rfl rfl Try.underlying42 Try.underlying5 Try.underlying9 (reads_row hE7 2 rfl) rfl ?_)
                  | (go_at_call 48; refine (sPText (q := (bsA, 0)) (ys := eb) hE7.tail.tail.tail.tail.tail.drop hq2).mono ?_; clear hE7; rintro e w8 ⟨v, rfl, rfl, hE8⟩))
                go_roundw
                case rel => exact ⟨k + 1, hlt, by simp, by rw [Ha.out, List.all_append, Hall.out]; simp [Hm.out], by rw [Ha.out, Hep.out, HbA.out]; exact hE8⟩
                case measure => simp [intOf]; omega
            · have hd : ((10 : Int) < (x.do_.toNat : Int)) := by omega
              have Hm := SL.hid (show mayE x = false by rw [mayE_of, decide_eq_false h10]; simp)
              clear hf
              generalize entB x = eb at *
              go_wp2_with (first
                | (go_at_call 44; refine (Bytes_ok hE (by omega)).mono ?_; clear hE; rintro e w3 ⟨v, rfl, ao2, c2, rfl, hE3⟩))
              refine wp_region_held_drew (S := (fun w' => (Instr.loadAt 5 (.pointer (some ⟨b6, 0, none⟩))).run Try.prog w' = .ok (.int .u8 x.do_.toNat) w')) (by kernel_rfl) (atV hE3.drew 2 rfl (by simp [go_sem]) rfl) (fun hS => ?_)
              refine wpAnyH_take (i := 0) (oi := { dst := some 44, op := Go.Op.move (Go.Operand.tmp 11), type := 25, pos := "script.go:109", after := #[], guard := none }) (v := ?_) rfl (by kernel_rfl) (by kernel_rfl) (by kernel_rfl) (fun _ _ _ h => h) (Or.inl ⟨by rfl, ?_⟩) hS ?_
              rotate_left
              · (intro w hSw; (try dsimp only at hSw); go_simp; (try with_reducible rfl))
              try simp only [Act.put, List.setIfInBounds_toArray, List.set_cons_zero, List.set_cons_succ]
              refine wpAnyH_take (i := 1) (oi := { dst := some 45, op := Go.Op.binOp Go.BinOp.neq 25 (Go.Operand.tmp 44) (Go.Operand.const (Go.Value.int Go.IntKind.i64 0)) 25, type := 4, pos := "script.go:109", after := #[{ on := 0, ground := Go.Ground.data }], guard := none }) (v := ?_) rfl (by kernel_rfl) (by kernel_rfl) (by kernel_rfl) (fun _ _ _ h => h) (Or.inl ⟨by rfl, ?_⟩) hS ?_
              rotate_left
              · (intro w hSw; (try dsimp only at hSw); go_simp; (try with_reducible rfl))
              try simp only [Act.put, List.setIfInBounds_toArray, List.set_cons_zero, List.set_cons_succ]
              refine wpAnyH_take (i := 2) (oi := { dst := some 46, op := Go.Op.move (Go.Operand.tmp 45), type := 4, pos := "script.go:109", after := #[{ on := 1, ground := Go.Ground.data }], guard := none }) (v := ?_) rfl (by kernel_rfl) (by kernel_rfl) (by kernel_rfl) (fun _ _ _ h => h) (Or.inl ⟨by rfl, ?_⟩) hS ?_
              rotate_left
              · (intro w hSw; (try dsimp only at hSw); go_simp; (try with_reducible rfl))
              try simp only [Act.put, List.setIfInBounds_toArray, List.set_cons_zero, List.set_cons_succ]
              refine wpAnyH_take (i := 3) (oi := { dst := some 47, op := Go.Op.fieldAddr 87 (Go.Operand.tmp 6) 0, type := 0, pos := "script.go:109", after := #[{ on := 2, ground := Go.Ground.guard }], guard := some (2, false) }) (v := ?_) rfl (by kernel_rfl) (by kernel_rfl) (by kernel_rfl) (fun _ _ _ h => h) (Or.inl ⟨by rfl, ?_⟩) hS ?_
              rotate_left
              · (intro w hSw; (try dsimp only at hSw); go_simp; (try with_reducible rfl))
              try simp only [Act.put, List.setIfInBounds_toArray, List.set_cons_zero, List.set_cons_succ]
              refine wpAnyH_take (i := 4) (oi := { dst := some 48, op := Go.Op.load 5 (Go.Operand.tmp 47), type := 5, pos := "script.go:109", after := #[{ on := 3, ground := Go.Ground.data }, { on := 2, ground := Go.Ground.guard }], guard := some (2, false) }) (v := ?_) rfl (by kernel_rfl) (by kernel_rfl) (by kernel_rfl) (fun _ _ _ h => h) (Or.inl ⟨by rfl, ?_⟩) hS ?_
              rotate_left
              · (intro w hSw; (try dsimp only at hSw); go_simp; (try with_reducible rfl))
              try simp only [Act.put, List.setIfInBounds_toArray, List.set_cons_zero, List.set_cons_succ]
              refine wpAnyH_take (i := 5) (oi := { dst := some 49, op := Go.Op.binOp Go.BinOp.gtr 5 (Go.Operand.tmp 48) (Go.Operand.const (Go.Value.int Go.IntKind.u8 10)) 5, type := 4, pos := "script.go:109", after := #[{ on := 4, ground := Go.Ground.data }, { on := 2, ground := Go.Ground.guard }], guard := some (2, false) }) (v := ?_) rfl (by kernel_rfl) (by kernel_rfl) (by kernel_rfl) (fun _ _ _ h => h) (Or.inl ⟨by rfl, ?_⟩) hS ?_
              rotate_left
              · (intro w hSw; (try dsimp only at hSw); go_simp; (try with_reducible rfl))
              try simp only [Act.put, List.setIfInBounds_toArray, List.set_cons_zero, List.set_cons_succ]
              refine wpAnyH_take (i := 6) (oi := { dst := some 50, op := Go.Op.pick (Go.Operand.tmp 46) (Go.Operand.const (Go.Value.bool true)) (Go.Operand.tmp 49), type := 4, pos := "script.go:109", after := #[{ on := 2, ground := Go.Ground.data }, { on := 5, ground := Go.Ground.data }], guard := none }) (v := ?_) rfl (by kernel_rfl) (by kernel_rfl) (by kernel_rfl) (fun _ _ _ h => h) (Or.inl ⟨by rfl, ?_⟩) hS ?_
              rotate_left
              · (intro w hSw; (try dsimp only at hSw); go_simp; (try with_reducible rfl))
              try simp only [Act.put, List.setIfInBounds_toArray, List.set_cons_zero, List.set_cons_succ]
              refine wpAnyH_take (i := 7) (oi := { dst := some 51, op := Go.Op.move (Go.Operand.tmp 50), type := 4, pos := "script.go:109", after := #[{ on := 6, ground := Go.Ground.data }, { on := 2, ground := Go.Ground.chain }], guard := none }) (v := ?_) rfl (by kernel_rfl) (by kernel_rfl) (by kernel_rfl) (fun _ _ _ h => h) (Or.inl ⟨by rfl, ?_⟩) hS ?_
              rotate_left
              · (intro w hSw; (try dsimp only at hSw); go_simp; (try with_reducible rfl))
              try simp only [Act.put, List.setIfInBounds_toArray, List.set_cons_zero, List.set_cons_succ]
              refine wpAnyH_take (i := 8) (oi := { dst := some 52, op := Go.Op.move (Go.Operand.tmp 10), type := 42, pos := "script.go:109", after := #[{ on := 7, ground := Go.Ground.guard }], guard := some (7, false) }) (v := undef) rfl (by kernel_rfl) (by kernel_rfl) (by kernel_rfl) (fun _ _ _ h => h) (Or.inr ⟨by rfl, rfl⟩) hS ?_
              try simp only [Act.put, List.setIfInBounds_toArray, List.set_cons_zero, List.set_cons_succ]
              refine wpAnyH_take (i := 9) (oi := { dst := some 53, op := Go.Op.call { callee := Go.Callee.value (Go.Operand.func 47), args := #[Go.Operand.tmp 52], argTypes := #[42] }, type := 102, pos := "script.go:109", after := #[{ on := 8, ground := Go.Ground.data }, { on := 7, ground := Go.Ground.chain }, { on := 7, ground := Go.Ground.guard }], guard := some (7, false) }) (v := undef) rfl (by kernel_rfl) (by kernel_rfl) (by kernel_rfl) (fun _ _ _ h => h) (Or.inr ⟨by rfl, rfl⟩) hS ?_
              try simp only [Act.put, List.setIfInBounds_toArray, List.set_cons_zero, List.set_cons_succ]
              refine wpAnyH_take (i := 10) (oi := { dst := some 54, op := Go.Op.call { callee := Go.Callee.value (Go.Operand.func 46), args := #[Go.Operand.tmp 53], argTypes := #[102] }, type := 87, pos := "script.go:109", after := #[{ on := 9, ground := Go.Ground.data }, { on := 9, ground := Go.Ground.chain }, { on := 7, ground := Go.Ground.guard }], guard := some (7, false) }) (v := undef) rfl (by kernel_rfl) (by kernel_rfl) (by kernel_rfl) (fun _ _ _ h => h) (Or.inr ⟨by rfl, rfl⟩) hS ?_
              try simp only [Act.put, List.setIfInBounds_toArray, List.set_cons_zero, List.set_cons_succ]
              refine wpAnyH_take (i := 11) (oi := { dst := some 55, op := Go.Op.load 87 (Go.Operand.tmp 6), type := 87, pos := "script.go:109", after := #[{ on := 7, ground := Go.Ground.guard }], guard := some (7, false) }) (v := undef) rfl (by kernel_rfl) (by kernel_rfl) (by kernel_rfl) (fun _ _ _ h => h) (Or.inr ⟨by rfl, rfl⟩) hS ?_
              try simp only [Act.put, List.setIfInBounds_toArray, List.set_cons_zero, List.set_cons_succ]
              refine wpAnyH_take (i := 12) (oi := { dst := some 56, op := Go.Op.call { callee := Go.Callee.value (Go.Operand.func 45), args := #[Go.Operand.tmp 54, Go.Operand.tmp 55], argTypes := #[87, 87] }, type := 4, pos := "script.go:109", after := #[{ on := 10, ground := Go.Ground.data }, { on := 11, ground := Go.Ground.data }, { on := 10, ground := Go.Ground.chain }, { on := 7, ground := Go.Ground.guard }], guard := some (7, false) }) (v := undef) rfl (by kernel_rfl) (by kernel_rfl) (by kernel_rfl) (fun _ _ _ h => h) (Or.inr ⟨by rfl, rfl⟩) hS ?_
              try simp only [Act.put, List.setIfInBounds_toArray, List.set_cons_zero, List.set_cons_succ]
              refine wpAnyH_take (i := 13) (oi := { dst := some 57, op := Go.Op.unOp Go.UnOp.not 4 (Go.Operand.tmp 56), type := 4, pos := "script.go:109", after := #[{ on := 12, ground := Go.Ground.data }, { on := 7, ground := Go.Ground.guard }], guard := some (7, false) }) (v := undef) rfl (by kernel_rfl) (by kernel_rfl) (by kernel_rfl) (fun _ _ _ h => h) (Or.inr ⟨by rfl, rfl⟩) hS ?_
              try simp only [Act.put, List.setIfInBounds_toArray, List.set_cons_zero, List.set_cons_succ]
              refine wpAnyH_take (i := 14) (oi := { dst := some 58, op := Go.Op.pick (Go.Operand.tmp 51) (Go.Operand.const (Go.Value.bool true)) (Go.Operand.tmp 57), type := 4, pos := "script.go:109", after := #[{ on := 7, ground := Go.Ground.data }, { on := 13, ground := Go.Ground.data }], guard := none }) (v := ?_) rfl (by kernel_rfl) (by kernel_rfl) (by kernel_rfl) (fun _ _ _ h => h) (Or.inl ⟨by rfl, ?_⟩) hS ?_
              rotate_left
              · (intro w hSw; (try dsimp only at hSw); go_simp; (try with_reducible rfl))
              try simp only [Act.put, List.setIfInBounds_toArray, List.set_cons_zero, List.set_cons_succ]
              refine wpAnyH_done (by kernel_rfl) ?_ _
              go_wp2
              go_ret2
              exact ⟨_, rfl, by rw [(Hno.out Hm.out).1, (Hno.out Hm.out).2]; rfl, hE3.drew.tail.tail.tail.drop.tail⟩
    · have e : k = vs.length := by omega
      rw [e, List.take_length] at Hall hE
      clear e
      have hab := allB_len Hall.out
      have hab2 : (allB (xsOf vs)).length ≤ 200000000000 := by
        have : (xsOf vs).length * 20000000 ≤ 10000 * 20000000 := Nat.mul_le_mul_right _ (by simp only [xsOf, List.length_map]; omega)
        omega
      clear hab
      by_cases h4 : (allB (xsOf vs)).length ≤ 4000
      · have H1 := SL.hid (show putS (xsOf vs) = allB (xsOf vs) ∧ putSE (xsOf vs) = 0 from by simp [putS, putSE, Hall.out, h4])
        generalize allB (xsOf vs) = bs at *
        have hd : decide ((4000 : Int) < (bs.length : Int)) = false := decide_eq_false (by omega)
        go_wp2_with (first
          | (go_at_call 44; refine (Bytes_ok hE (by omega)).mono ?_; clear hE; rintro e w3 ⟨v, rfl, ao2, c2, rfl, hE3⟩)
          | ((with_reducible (show Go.wpList _ _ _ (Go.Oper.mk _ (.convert _ _ _) _ _ _ _ :: _) _ _)); refine wpl_bytesStr (bs := bs) rfl rfl rfl Try.underlying42 Try.underlying5 Try.underlying9 (reads_row hE3 0 rfl) rfl ?_))
        go_ret2
        exact ⟨_, rfl, by rw [H1.out.1, H1.out.2]; rfl, hE3.tail.tail⟩
      · have H1 := SL.hid (show putS (xsOf vs) = [] ∧ putSE (xsOf vs) = 6 from by simp [putS, putSE, Hall.out, h4])
        generalize allB (xsOf vs) = bs at *
        have hd : ((4000 : Int) < (bs.length : Int)) := by omega
        go_wp2_with (first
          | (go_at_call 44; refine (Bytes_ok hE (by omega)).mono ?_; clear hE; rintro e w3 ⟨v, rfl, ao2, c2, rfl, hE3⟩))
        go_ret2
        exact ⟨_, rfl, by rw [H1.out.1, H1.out.2]; rfl, hE3.tail.tail⟩
end Go.Proofs.Ytohdljcpaogokaa
namespace Go.Proofs.Ytohdljcpaogokaa
open Go.RowKit Go.SL

theorem info_call : elemInfo Try.prog 87 = some (some 6, 6, 88) := by kernel_rfl
theorem ptes_each (s : St) (h : s.bs.length ≤ 4000) : ∀ n, ∀ y ∈ (ptes n s).1, y.path.length + y.data.length + 4 ≤ 1000000
  | 0 => by simp [ptes]
  | n + 1 => by
    intro y hy
    rw [ptes] at hy
    simp only [List.mem_append, List.mem_singleton] at hy
    rcases hy with hy | rfl
    · exact ptes_each s h n y hy
    · have h0 := ptes_len s n
      unfold pte
      simp only
      have h1 := nmV_len (ptes n s).2
      have h2 := txV_len (tkV 2 (tk 1 (nm (ptes n s).2))) (tk 2 (tk 1 (nm (ptes n s).2)))
      have h3 := tk_len 2 (tk 1 (nm (ptes n s).2))
      have h4 := tk_len 1 (nm (ptes n s).2)
      have h5 := nm_len (ptes n s).2
      omega
theorem pent_okb (s : St) (h : s.bs.length ≤ 4000) : (pent s).1.okb := by
  refine ⟨pent_good s, ?_⟩
  unfold pent
  simp only
  have hh : ∀ (b : Bool) (a c : St), a.bs.length ≤ 4000 → c.bs.length ≤ 4000 → (if b then a else c).bs.length ≤ 4000 := fun b a c h1 h2 => by cases b <;> simpa
  have hn : ∀ (b : Bool) (q : St), q.bs.length ≤ 4000 → (if b then nmV q else []).length ≤ 100000 := fun b q h1 => by
    have := nmV_len q
    cases b
    · simp
    · simp only [if_true]; omega
  have h1 : (tk 1 s).bs.length ≤ 4000 := Nat.le_trans (tk_len 1 s) h
  generalize UInt8.ofNat (tkV 1 s) = d at *
  have h2 := hh (hasName d) _ _ (Nat.le_trans (nm_len (tk 1 s)) h1) h1
  generalize tk 1 s = s1 at *
  generalize (if hasName d = true then nm s1 else s1) = s2 at *
  have h3 := hh (hasPath d) (nm s2) s2 (Nat.le_trans (nm_len _) h2) h2
  generalize (if hasPath d = true then nm s2 else s2) = s3 at *
  have h4 := hh (hasTree d) (ptes (tkV 1 s3) (tk 1 s3)).2 s3 (Nat.le_trans (ptes_len _ _) (Nat.le_trans (tk_len _ _) h3)) h3
  generalize (if hasTree d = true then (ptes (tkV 1 s3) (tk 1 s3)).2 else s3) = s4 at *
  have h5 := hh (hasActs d) (tk 2 s4) s4 (Nat.le_trans (tk_len _ _) h4) h4
  generalize (if hasActs d = true then tk 2 s4 else s4) = s5 at *
  refine ⟨⟨hn _ _ h1, hn _ _ h2, hn _ _ h5⟩, ?_, ?_⟩
  · split
    · rw [ptes_count]; have := tkV1_lt s3; omega
    · simp
  · intro y hy
    split at hy
    · exact ptes_each _ (Nat.le_trans (tk_len 1 s3) h3) _ y hy
    · simp at hy

def takeL (b : List UInt8) : List SE := if b.length ≤ 4000 then (takeS b).getD [] else []
def takeE (b : List UInt8) : Int := if b.length ≤ 4000 then (if (takeS b).isSome then 0 else 3) else 6
def lenS : Value → Nat
  | .slice _ n _ => n
  | _ => 0
def TkAll (b : List UInt8) (o : Nat) (l : List HProp) (i : Value) (wr : World) : Prop :=
  ∃ (vs : List SV) (s : St) (ao : Option Addr) (c : Nat) (m : List HProp), i = .slice ao vs.length c ∧ pall ⟨b, 0⟩ = (xsOf vs ++ (pall s).1, (pall s).2) ∧ vs.length + s.bs.length ≤ b.length ∧ (∀ v ∈ vs, v.x.okb) ∧ (∀ v ∈ vs, v.known (m ++ l)) ∧
    Ent (opener o s.bs s.err :: row 87 6 (.slice ao vs.length c) vs.length (svCells vs) :: (m ++ l)) wr
theorem perm_in {l : List HProp} {A B C D : HProp} : (A :: B :: C :: D :: l).Perm (B :: D :: C :: A :: l) :=
  (List.Perm.swap B A _).trans (List.Perm.cons B (((List.Perm.swap C A _).trans (List.Perm.cons C (List.Perm.swap D A _))).trans ((List.Perm.swap D C _))))

set_option maxRecDepth 100000 in
set_option maxHeartbeats 4000000 in
theorem Takes_any {b : List UInt8} {l : List HProp} {w : World} (hE : Ent l w) (hb : b.length ≤ 1000000000) :
    Calls Try.prog 14 #[.string ⟨b.toArray⟩] w (Ret fun v w' => ∃ (vs : List SV) (ao : Option Addr) (c : Nat) (m : List HProp), v = .tuple #[.slice ao vs.length c, .int .i64 (takeE b)] ∧ xsOf vs = takeL b ∧ Ent (m ++ l) w' ∧
      Knows (m ++ l) (reads (.slice ao vs.length c) vs.length (svCells vs)) ∧ (∀ v ∈ vs, v.known (m ++ l)) ∧ ∀ v ∈ vs, v.x.okb) := by
  have hnone : Knows l (reads (.slice none 0 0) 0 (svCells [])) := fun _ _ => reads_nil 0 0 rfl _
  by_cases h4 : b.length ≤ 4000
  · have hd : decide ((4000 : Int) < (b.length : Int)) = false := decide_eq_false (by omega)
    go_enter Try.func14, Try.ntmps14
    go_wp2_with (first
      | ((with_reducible (show Go.wpList _ _ _ (Go.Oper.mk _ (.convert _ _ _) _ _ _ _ :: _) _ _)); refine wpl_strB hE rfl rfl rfl ?_; clear hE; intro bb cb w1 hE1)
      | (go_at_call 47; refine (Of_any hE1 (fun w h => h.views 0 rfl) (by omega)).mono ?_; clear hE1; rintro e w2 ⟨v, rfl, o, rfl, hE2⟩))
    go_loopw [5] (fun i wr => TkAll b o l i wr) (fun i _ => 4001 - lenS i)
    case atStart => exact ⟨[], ⟨b, 0⟩, none, 0, [_], rfl, by simp [xsOf], by simp, by simp, by simp, ((hE2.nil 87 6).perm (List.Perm.swap _ _ _))⟩
    case round =>
      clear hE2
      obtain ⟨vs, s, ao, c, m, rfl, hall, hlen, hok, hkn, hE⟩ := hrel
      have Hall := SL.hid hall
      have Hok := SL.hid hok
      have Hkn := SL.hid hkn
      clear hall hok hkn
      have hsb : s.bs.length ≤ 4000 := by omega
      cases hgo : goesOn s with
      | true =>
        have hpl := pent_less hgo
        have Hpa := SL.hid (show pall s = ((pent s).1 :: (pall (pent s).2).1, (pall (pent s).2).2) by rw [pall, dif_pos hgo])
        simp only [goesOn, Bool.and_eq_true, Bool.not_eq_true', beq_iff_eq] at hgo
        have hpos : decide (0 < s.bs.length) = true := decide_eq_true (by
          have : s.bs ≠ [] := by intro e; rw [e] at hgo; simp at hgo
          have := List.length_pos_iff.2 this
          omega)
        have herr : s.err = 0 := hgo.2
        clear hgo
        have hT : ∀ {l : List HProp} {w : World}, Ent (opener o s.bs s.err :: l) w → Calls Try.prog 46 #[.pointer (some ⟨o, 0, none⟩)] w (Ret fun v w' => ∃ ao c, v = .agg (xcells (pent s).1 ao c).toArray ∧ Ent (opener o (pent s).2.bs (pent s).2.err :: trow ao c (pent s).1.tree :: l) w') := fun h => take_any h (by omega)
        have Hpk := SL.hid (pent_okb s hsb)
        generalize pent s = q at *
        have hvl : vs.length ≤ 4000 := by omega
        go_wp2_with (first
          | go_skip
          | (go_at_call 51; refine (Left_any hE).mono ?_; rintro e w3 ⟨rfl, rfl⟩)
          | (go_at_call 52; refine (Err_any hE).mono ?_; rintro e w3 ⟨rfl, rfl⟩)
          | (go_at_call 46; refine (hT hE).mono ?_; clear hE; rintro e w4 ⟨v, rfl, at_, ct, rfl, hE4⟩)
          | ((with_reducible (show Go.wpList _ _ _ (Go.Oper.mk _ (.buildSlice _ _ _) _ _ _ _ :: _) _ _)); refine wpl_build1 hE4 rfl rfl (xs := xcells q.1 at_ ct) rfl Try.underlying28 (size := 6) (by kernel_rfl) Try.sizeOf87 (by decide) (by decide) rfl ?_; clear hE4; intro bn w5 hE5)
          | ((with_reducible (show Go.wpList _ _ _ (Go.Oper.mk _ (.call _) _ _ _ _ :: _) _ _)); refine wpl_appendG hE5 3 rfl rfl rfl rfl rfl Try.underlying28 info_call (by decide) (m := 1) (news := xcells q.1 at_ ct) (reads_pt hE5 0 rfl (off := 0) (fun j u hu => by simpa using hu)) rfl (by simp [xcells, Value.oneCell']) (by omega) (by omega) ?_; clear hE5; intro ao' c' w6 hE6; simp only [List.set_cons_zero, List.set_cons_succ] at hE6))
        case roundEnd =>
          refine ⟨⟨vs ++ [⟨q.1, at_, ct⟩], q.2, ao', c', trow at_ ct q.1.tree :: m, by simp, by rw [Hall.out, Hpa.out]; simp [xsOf], by simp; omega, ?_, ?_, ?_⟩, by simp [lenS]; omega⟩
          · intro v hv
            simp only [List.mem_append, List.mem_singleton] at hv
            rcases hv with hv | rfl
            · exact Hok.out v hv
            · exact Hpk.out
          · intro v hv
            simp only [List.mem_append, List.mem_singleton] at hv
            rcases hv with hv | rfl
            · exact (Hkn.out v hv).cons
            · exact fun w h => reads_row h 0 rfl
          · have e1 : svCells (vs ++ [⟨q.1, at_, ct⟩]) = svCells vs ++ xcells q.1 at_ ct := by simp [svCells, SV.cells]
            have e2 : (vs ++ [(⟨q.1, at_, ct⟩ : SV)]).length = vs.length + 1 := by simp
            rw [e1, e2]
            exact hE6.tail.perm ((List.Perm.swap _ _ _).cons _)
      | false =>
        have hpa : pall s = ([], s) := by rw [pall, dif_neg (by simp [hgo])]
        have hvl : vs.length ≤ 4000 := by omega
        have hp := Hall.out
        rw [hpa, List.append_nil] at hp
        have hts : takeS b = if s.err == 0 && ((xsOf vs).all mayE && (allB (xsOf vs) == b)) then some (xsOf vs) else none := by rw [takeS, hp]
        clear hpa hp
        have hPut : ∀ {w : World}, Ent (opener o s.bs s.err :: row 87 6 (.slice ao vs.length c) vs.length (svCells vs) :: (m ++ l)) w → Calls Try.prog 11 #[.slice ao vs.length c] w (Ret fun v w' => v = .tuple #[.string ⟨(putS (xsOf vs)).toArray⟩, .int .i64 (putSE (xsOf vs))] ∧
            Ent (opener o s.bs s.err :: row 87 6 (.slice ao vs.length c) vs.length (svCells vs) :: (m ++ l)) w') := fun h => Puts_any h (by omega) Hok.out (fun w h => reads_row h 1 rfl) (fun v hv => (Hkn.out v hv).cons.cons)
        by_cases herr : s.err = 0
        · have hpos : decide (0 < s.bs.length) = false := decide_eq_false (by
            simp only [goesOn, herr] at hgo
            have : s.bs = [] := by simpa using hgo
            rw [this]; simp)
          clear hgo
          have Hts := SL.hid (show takeS b = if (xsOf vs).all mayE && (allB (xsOf vs) == b) then some (xsOf vs) else none by rw [hts, herr]; rfl)
          clear hts
          by_cases hall : (xsOf vs).all mayE = true ∧ allB (xsOf vs) = b
          · obtain ⟨ha, hb2⟩ := hall
            have h1 : putS (xsOf vs) = b := by rw [← hb2, putS, ha, hb2, decide_eq_true h4]; rfl
            have h2 : putSE (xsOf vs) = 0 := by rw [putSE, if_pos ha, hb2, if_pos h4]
            have R := SL.hid (show takeL b = xsOf vs ∧ takeE b = 0 by
              have : takeS b = some (xsOf vs) := by rw [Hts.out, ha, hb2]; simp
              simp [takeL, takeE, h4, this])
            rw [h1, h2] at hPut
            clear ha hb2 h1 h2
            go_wp2_with (first
              | go_skip
              | (go_at_call 51; refine (Left_any hE).mono ?_; rintro e w3 ⟨rfl, rfl⟩)
              | (go_at_call 11; refine (hPut hE).mono ?_; clear hE; rintro e w5 ⟨v, rfl, rfl, hE⟩)
              | (go_at_call 52; refine (Err_any hE).mono ?_; rintro e w3 ⟨rfl, rfl⟩))
            go_ret2
            exact ⟨_, rfl, vs, ao, c, row 87 6 (.slice ao vs.length c) vs.length (svCells vs) :: m, by rw [R.out.2]; rfl, R.out.1.symm, hE.tail, fun w h => reads_row h 0 rfl, fun v hv => (Hkn.out v hv).cons, Hok.out⟩
          · have R := SL.hid (show takeL b = [] ∧ takeE b = 3 by
              have : takeS b = none := by rw [Hts.out, if_neg (by simpa using hall)]
              simp [takeL, takeE, h4, this])
            have hcase : (putSE (xsOf vs) ≠ 0) ∨ (putSE (xsOf vs) = 0 ∧ (putS (xsOf vs) == b) = false) := by
              by_cases h0 : putSE (xsOf vs) = 0
              · refine .inr ⟨h0, ?_⟩
                by_cases ha : (xsOf vs).all mayE = true
                · rw [putSE, if_pos ha] at h0
                  split at h0
                  · rename_i hle
                    rw [putS, ha, decide_eq_true hle]
                    simp only [Bool.and_self, if_true, beq_eq_false_iff_ne]
                    exact fun e => hall ⟨ha, e⟩
                  · simp at h0
                · rw [putSE, if_neg ha] at h0
                  simp at h0
              · exact .inl h0
            generalize putSE (xsOf vs) = pe at *
            generalize putS (xsOf vs) = pb at *
            clear hall
            rcases hcase with h0 | ⟨h0, h1⟩
            · have h0' : (pe != 0) = true := by simpa using h0
              clear h0
              go_wp2_with (first
                | go_skip
                | (go_at_call 51; refine (Left_any hE).mono ?_; rintro e w3 ⟨rfl, rfl⟩)
                | (go_at_call 11; refine (hPut hE).mono ?_; clear hE; rintro e w5 ⟨v, rfl, rfl, hE⟩)
                | (go_at_call 52; refine (Err_any hE).mono ?_; rintro e w3 ⟨rfl, rfl⟩))
              go_ret2
              exact ⟨_, rfl, [], none, 0, [], by rw [R.out.2]; rfl, by rw [R.out.1]; rfl, hE.tail.tail.drop, hnone, by simp, by simp⟩
            · have h1' : (pb != b) = true := by rw [bne, h1]; rfl
              rw [h0] at hPut
              clear h0
              go_wp2_with (first
                | go_skip
                | (go_at_call 51; refine (Left_any hE).mono ?_; rintro e w3 ⟨rfl, rfl⟩)
                | (go_at_call 11; refine (hPut hE).mono ?_; clear hE; rintro e w5 ⟨v, rfl, rfl, hE⟩)
                | (go_at_call 52; refine (Err_any hE).mono ?_; rintro e w3 ⟨rfl, rfl⟩))
              go_ret2
              exact ⟨_, rfl, [], none, 0, [], by rw [R.out.2]; rfl, by rw [R.out.1]; rfl, hE.tail.tail.drop, hnone, by simp, by simp⟩
        · have R := SL.hid (show takeL b = [] ∧ takeE b = 3 by
            have : takeS b = none := by rw [hts]; simp [herr]
            simp [takeL, takeE, h4, this])
          clear hts
          have he1 : (s.err == 0) = false := by simpa using herr
          have he2 : (s.err != 0) = true := by simpa using herr
          clear herr hgo
          cases hpos : decide (0 < s.bs.length)
          all_goals
            go_wp2_with (first
              | go_skip
              | (go_at_call 51; refine (Left_any hE).mono ?_; rintro e w3 ⟨rfl, rfl⟩)
              | (go_at_call 11; refine (hPut hE).mono ?_; clear hE; rintro e w5 ⟨v, rfl, rfl, hE⟩)
              | (go_at_call 52; refine (Err_any hE).mono ?_; rintro e w3 ⟨rfl, rfl⟩))
            go_ret2
            exact ⟨_, rfl, [], none, 0, [], by rw [R.out.2]; rfl, by rw [R.out.1]; rfl, hE.tail.tail.drop, hnone, by simp, by simp⟩
  · have hd : ((4000 : Int) < (b.length : Int)) := by omega
    have H1 := SL.hid (show takeL b = [] ∧ takeE b = 6 by simp [takeL, takeE, h4])
    go_enter Try.func14, Try.ntmps14
    go_wp2
    go_ret2
    exact ⟨_, rfl, [], none, 0, [], by rw [H1.out.2]; rfl, by rw [H1.out.1]; rfl, hE, hnone, by simp, by simp⟩
end Go.Proofs.Ytohdljcpaogokaa
namespace Go.Proofs.Ytohdljcpaogokaa
open Go.RowKit Go.SL

theorem cat2 (a b : List UInt8) (h : a.length + b.length ≤ 1099511627776) : ∃ p : List UInt8, p = a ++ b ∧ (⟨a.toArray⟩ : ByteArray) ++ ⟨b.toArray⟩ = ⟨p.toArray⟩ ∧ ¬ (9223372036854775807 < a.length + b.length) :=
  ⟨a ++ b, rfl, bytes_join a b, by omega⟩
set_option maxRecDepth 100000 in
theorem num27_any (n : Nat) (hn : n < 18446744073709551616) (width : Int) {l : List HProp} {w : World} (hE : Ent l w) :
    Calls Try.prog 89 #[.int .i64 width, .int .u64 n] w (Ret fun v w' => v = .string ⟨(numS width n).toArray⟩ ∧ Ent l w') := by
  go_enter Try.func89, Try.ntmps89
  go_wp2_with (first
    | (go_at_call 115; have H := Num_any n hn width hE; refine H.mono ?_; clear H hE; rintro e w2 ⟨v, rfl, rfl, hE⟩))
  go_ret
  exact ⟨_, rfl, rfl, hE⟩
theorem num27_1 {n : Nat} (hn : n < 256) {l : List HProp} {w : World} (hE : Ent l w) :
    Calls Try.prog 89 #[.int .i64 1, .int .u64 n] w (Ret fun v w' => v = .string ⟨[UInt8.ofNat n].toArray⟩ ∧ Ent l w') := by
  have h := num27_any n (by omega) 1 hE
  rw [show numS 1 n = [UInt8.ofNat n] from be_one n] at h
  exact h
theorem num27_2 {n : Nat} (hn : n < 65536) {l : List HProp} {w : World} (hE : Ent l w) :
    Calls Try.prog 89 #[.int .i64 2, .int .u64 n] w (Ret fun v w' => v = .string ⟨(be 2 n).toArray⟩ ∧ Ent l w') := num27_any n (by omega) 2 hE
set_option maxRecDepth 100000 in
theorem name27 {ys : List UInt8} (hn : ys.length ≤ 255) {l : List HProp} {w : World} (hE : Ent l w) :
    Calls Try.prog 90 #[.string ⟨ys.toArray⟩] w (Ret fun v w' => v = .string ⟨(nmB ys).toArray⟩ ∧ Ent l w') := by
  have hw : IntKind.u64.wrap (ys.length : Int) = ys.length := wrapU_id (by omega)
  obtain ⟨p, hp, hj, hc⟩ := cat2 [UInt8.ofNat ys.length] ys (by simp; omega)
  have hN : ∀ {l : List HProp} {w : World}, Ent l w → Calls Try.prog 89 #[.int .i64 1, .int .u64 ys.length] w (Ret fun v w' => v = .string ⟨[UInt8.ofNat ys.length].toArray⟩ ∧ Ent l w') := fun h => num27_1 (by omega) h
  have Hp := SL.hid (show nmB ys = p by rw [hp]; rfl)
  rw [Hp.out]
  clear hp
  generalize [UInt8.ofNat ys.length] = a at *
  go_enter Try.func90, Try.ntmps90
  go_wp2_with (first
    | (go_at_call 89; refine (hN hE).mono ?_; clear hE; rintro e w2 ⟨v, rfl, rfl, hE⟩))
  go_ret
  exact ⟨_, rfl, rfl, hE⟩
end Go.Proofs.Ytohdljcpaogokaa
