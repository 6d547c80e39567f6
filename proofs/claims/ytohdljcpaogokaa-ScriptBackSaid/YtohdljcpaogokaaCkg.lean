/-
  The law's own small functions on chunks: whether two are the same, a chunk of the document ks the program has it, whether one is too great.
-/
import Derived.Test.YtohdljcpaogokaaCkd
namespace Go.Proofs.Ytohdljcpaogokaa
open Go.RowKit Go.SL

theorem atC {P : Program} {w : World} {t : TypeId} (hA : ∀ w, (isAgg t).run P w = .ok true w) {n : Nat} (hn : ∀ w, (Go.sizeOf t).run P w = .ok n w) {ad : Addr} (vs : List Value) (hl : vs.length = n) (hc : ∀ j v, vs[j]? = some v → w.cell? (ad.add j) = some v) :
    (Instr.loadAt t (.pointer (some ad))).run P w = .ok (.agg vs.toArray) w := by
  have hr := run_loadCells_list (P := P) w ad vs hc
  subst hl
  simp [Instr.loadAt, Instr.sureAddr, loadVar, hA, hn, hr]

/-- are two chunks the same? -/
def sameC (a b : Chunk) : Bool := a.kind == b.kind && (a.data == b.data && (a.kids.length == b.kids.length && (List.range a.kids.length).all fun i => match a.kids[i]?, b.kids[i]? with | some x, some y => keq x y | _, _ => false))
theorem sameC_iff {a b : Chunk} : sameC a b = true ↔ a = b := by
  obtain ⟨k1, d1, s1⟩ := a
  obtain ⟨k2, d2, s2⟩ := b
  simp only [sameC, Bool.and_eq_true, beq_iff_eq, List.all_eq_true, List.mem_range, Chunk.mk.injEq]
  constructor
  · rintro ⟨rfl, rfl, hl, h⟩
    refine ⟨rfl, rfl, List.ext_getElem? fun i => ?_⟩
    by_cases hi : i < s1.length
    · have h1 := h i hi
      rw [List.getElem?_eq_getElem hi, List.getElem?_eq_getElem (by omega)] at h1 ⊢
      rw [keq_iff.1 h1]
    · rw [List.getElem?_eq_none (by omega), List.getElem?_eq_none (by omega)]
  · rintro ⟨rfl, rfl, rfl⟩
    refine ⟨rfl, rfl, rfl, fun i hi => ?_⟩
    rw [List.getElem?_eq_getElem hi]
    exact keq_iff.2 rfl

def SmRel (ks js : List Kid) (l : List HProp) (i : Value) (wr : World) : Prop := ∃ k : Nat, k ≤ ks.length ∧ i = .int .i64 k ∧ (List.range k).all (fun i => match ks[i]?, js[i]? with | some x, some y => keq x y | _, _ => false) = true ∧ Ent l wr

theorem u8_ne (u v : UInt8) : ((u.toNat : Int) != (v.toNat : Int)) = !(u == v) := by
  have : ((u.toNat : Int) == (v.toNat : Int)) = (u == v) := by
    rw [Bool.eq_iff_iff]
    simp [← UInt8.toNat_inj]
    omega
  simp only [bne, this]

set_option maxRecDepth 100000 in
set_option maxHeartbeats 2000000 in
attribute [-go_sem] Instr.loadAt Go.run_equalIn_agg in
theorem Same_any {u1 u2 : UInt8} {d1 d2 : List UInt8} {ks js : List Kid} {ao bo : Option Addr} {c d : Nat} (ha : ∀ k ∈ ks, k.good) (hb : ∀ k ∈ js, k.good) (hn : ks.length ≤ 1000000) {l : List HProp} {w : World} (hE : Ent l w)
    (ka : Knows l (reads (.slice ao ks.length c) ks.length (kidCells ks))) (kb : Knows l (reads (.slice bo js.length d) js.length (kidCells js))) :
    Calls Try.prog 20 #[.agg #[.int .u8 u1.toNat, .string ⟨d1.toArray⟩, .slice ao ks.length c], .agg #[.int .u8 u2.toNat, .string ⟨d2.toArray⟩, .slice bo js.length d]] w (Ret fun v w' => v = .bool (sameC ⟨u1, d1, ks⟩ ⟨u2, d2, js⟩) ∧ Ent l w') := by
  have Ha := SL.hid ha
  have Hb := SL.hid hb
  clear ha hb
  have hu := u8_ne u1 u2
  cases h1 : (u1 == u2) with
  | false =>
    have R := SL.hid (show sameC ⟨u1, d1, ks⟩ ⟨u2, d2, js⟩ = false by simp only [sameC, h1, Bool.false_and])
    rw [h1] at hu
    clear h1
    go_enter Try.func20, Try.ntmps20
    go_wp2_with (first
      | go_skip
      | ((with_reducible (show Go.wpList _ _ _ (Go.Oper.mk _ (.box _ _) _ _ _ _ :: _) _ _)); refine wpl_box hE rfl rfl rfl ?_; clear hE; intro b2 w hE; simp only [Act.eval, Act.put, List.setIfInBounds_toArray, List.set_cons_zero, List.set_cons_succ, getD_lit, List.getD_cons_succ, List.getD_cons_zero, Value.cells] at hE)
      | ((with_reducible (show Go.wpList _ _ _ (Go.Oper.mk _ (.load _ _) _ _ _ _ :: _) _ _)); first | (refine wpl_load1 hE 0 rfl rfl rfl rfl (by simp [go_sem]) rfl ?_) | (refine wpl_load1 hE 1 rfl rfl rfl rfl (by simp [go_sem]) rfl ?_) | (refine wpl_load1 hE 2 rfl rfl rfl rfl (by simp [go_sem]) rfl ?_) | (refine wpl_load1 hE 3 rfl rfl rfl rfl (by simp [go_sem]) rfl ?_) | (refine wpl_load1 hE 4 rfl rfl rfl rfl (by simp [go_sem]) rfl ?_) | (refine wpl_load1 hE 5 rfl rfl rfl rfl (by simp [go_sem]) rfl ?_)))
    go_ret
    exact ⟨_, rfl, by rw [R.out]; rfl, hE.tail.tail⟩
  | true =>
    rw [h1] at hu
    cases h2 : (d1 == d2) with
    | false =>
      have R := SL.hid (show sameC ⟨u1, d1, ks⟩ ⟨u2, d2, js⟩ = false by simp only [sameC, h1, h2, Bool.false_and, Bool.and_false])
      clear h1
      go_enter Try.func20, Try.ntmps20
      go_wp2_with (first
        | go_skip
        | ((with_reducible (show Go.wpList _ _ _ (Go.Oper.mk _ (.box _ _) _ _ _ _ :: _) _ _)); refine wpl_box hE rfl rfl rfl ?_; clear hE; intro b2 w hE; simp only [Act.eval, Act.put, List.setIfInBounds_toArray, List.set_cons_zero, List.set_cons_succ, getD_lit, List.getD_cons_succ, List.getD_cons_zero, Value.cells] at hE)
        | ((with_reducible (show Go.wpList _ _ _ (Go.Oper.mk _ (.load _ _) _ _ _ _ :: _) _ _)); first | (refine wpl_load1 hE 0 rfl rfl rfl rfl (by simp [go_sem]) rfl ?_) | (refine wpl_load1 hE 1 rfl rfl rfl rfl (by simp [go_sem]) rfl ?_) | (refine wpl_load1 hE 2 rfl rfl rfl rfl (by simp [go_sem]) rfl ?_) | (refine wpl_load1 hE 3 rfl rfl rfl rfl (by simp [go_sem]) rfl ?_) | (refine wpl_load1 hE 4 rfl rfl rfl rfl (by simp [go_sem]) rfl ?_) | (refine wpl_load1 hE 5 rfl rfl rfl rfl (by simp [go_sem]) rfl ?_)))
      go_ret
      exact ⟨_, rfl, by rw [R.out]; rfl, hE.tail.tail⟩
    | true =>
      cases h3 : ((ks.length : Int) != (js.length : Int)) with
      | true =>
        have R := SL.hid (show sameC ⟨u1, d1, ks⟩ ⟨u2, d2, js⟩ = false by
          have : (ks.length == js.length) = false := by
            rw [beq_eq_false_iff_ne]
            intro e
            rw [e] at h3
            simp at h3
          simp only [sameC, this, Bool.false_and, Bool.and_false])
        clear h1
        go_enter Try.func20, Try.ntmps20
        go_wp2_with (first
          | go_skip
          | ((with_reducible (show Go.wpList _ _ _ (Go.Oper.mk _ (.box _ _) _ _ _ _ :: _) _ _)); refine wpl_box hE rfl rfl rfl ?_; clear hE; intro b2 w hE; simp only [Act.eval, Act.put, List.setIfInBounds_toArray, List.set_cons_zero, List.set_cons_succ, getD_lit, List.getD_cons_succ, List.getD_cons_zero, Value.cells] at hE)
          | ((with_reducible (show Go.wpList _ _ _ (Go.Oper.mk _ (.load _ _) _ _ _ _ :: _) _ _)); first | (refine wpl_load1 hE 0 rfl rfl rfl rfl (by simp [go_sem]) rfl ?_) | (refine wpl_load1 hE 1 rfl rfl rfl rfl (by simp [go_sem]) rfl ?_) | (refine wpl_load1 hE 2 rfl rfl rfl rfl (by simp [go_sem]) rfl ?_) | (refine wpl_load1 hE 3 rfl rfl rfl rfl (by simp [go_sem]) rfl ?_) | (refine wpl_load1 hE 4 rfl rfl rfl rfl (by simp [go_sem]) rfl ?_) | (refine wpl_load1 hE 5 rfl rfl rfl rfl (by simp [go_sem]) rfl ?_)))
        go_ret
        exact ⟨_, rfl, by rw [R.out]; rfl, hE.tail.tail⟩
      | false =>
        have hl : ks.length = js.length := by
          have h : ¬ ((ks.length : Int) ≠ (js.length : Int)) := by simpa using h3
          omega
        have R0 := SL.hid (show sameC ⟨u1, d1, ks⟩ ⟨u2, d2, js⟩ = (List.range ks.length).all (fun i => match ks[i]?, js[i]? with | some x, some y => keq x y | _, _ => false) by
          have e3 : (ks.length == js.length) = true := by rw [hl]; simp
          simp only [sameC, h1, h2, e3, Bool.true_and])
        clear h1
        go_enter Try.func20, Try.ntmps20
        go_wp2_with (first
          | go_skip
          | ((with_reducible (show Go.wpList _ _ _ (Go.Oper.mk _ (.box _ (.tmp 0)) _ _ _ _ :: _) _ _)); refine wpl_box hE rfl rfl rfl ?_; clear hE; intro b2 w hE1; simp only [Act.eval, Act.put, List.setIfInBounds_toArray, List.set_cons_zero, List.set_cons_succ, getD_lit, List.getD_cons_succ, List.getD_cons_zero, Value.cells] at hE1)
          | ((with_reducible (show Go.wpList _ _ _ (Go.Oper.mk _ (.box _ (.tmp 1)) _ _ _ _ :: _) _ _)); refine wpl_box hE1 rfl rfl rfl ?_; clear hE1; intro b3 w hE; simp only [Act.eval, Act.put, List.setIfInBounds_toArray, List.set_cons_zero, List.set_cons_succ, getD_lit, List.getD_cons_succ, List.getD_cons_zero, Value.cells] at hE)
          | ((with_reducible (show Go.wpList _ _ _ (Go.Oper.mk _ (.load _ _) _ _ _ _ :: _) _ _)); first | (refine wpl_load1 hE 0 rfl rfl rfl rfl (by simp [go_sem]) rfl ?_) | (refine wpl_load1 hE 1 rfl rfl rfl rfl (by simp [go_sem]) rfl ?_) | (refine wpl_load1 hE 2 rfl rfl rfl rfl (by simp [go_sem]) rfl ?_) | (refine wpl_load1 hE 3 rfl rfl rfl rfl (by simp [go_sem]) rfl ?_) | (refine wpl_load1 hE 4 rfl rfl rfl rfl (by simp [go_sem]) rfl ?_) | (refine wpl_load1 hE 5 rfl rfl rfl rfl (by simp [go_sem]) rfl ?_)))
        go_loopw [5] (fun i wr => SmRel ks js (pt b3 (.cells #[.int .u8 u2.toNat, .string ⟨d2.toArray⟩, .slice bo js.length d] 39) :: pt b2 (.cells #[.int .u8 u1.toNat, .string ⟨d1.toArray⟩, .slice ao ks.length c] 39) :: l) i wr) (fun i _ => ks.length - (intOf i).toNat)
        case atStart => exact ⟨0, Nat.zero_le _, rfl, rfl, hE⟩
        case round =>
          clear hE
          obtain ⟨k, hkl, rfl, hall, hE⟩ := hrel
          have Hall := SL.hid hall
          clear hall
          by_cases hlt : k < ks.length
          · have hlt2 : k < js.length := by omega
            have hkb : ((k : Int) < (js.length : Int)) := by omega
            obtain ⟨ba, oa, rfl, _⟩ := reads_form (ka _ hE.tail.tail) (by omega) (by rw [kidCells_len Ha.out]; omega)
            obtain ⟨bb, ob, rfl, _⟩ := reads_form (kb _ hE.tail.tail) (by omega) (by rw [kidCells_len Hb.out]; omega)
            have Ga := SL.hid (Ha.out _ (List.getElem_mem hlt))
            have Gb := SL.hid (Hb.out _ (List.getElem_mem hlt2))
            have la := SL.hid (show ∀ W, Ent l W → (Instr.loadAt 59 (.pointer (some ⟨ba, oa + k * 36, none⟩))).run Try.prog W = .ok (.agg (kcells ks[k]).toArray) W from fun W hW => atC Try.isAgg59 Try.sizeOf59 _ (kcells_len Ga.out) (kid_cells Ha.out (ka W hW) hlt))
            have lb := SL.hid (show ∀ W, Ent l W → (Instr.loadAt 59 (.pointer (some ⟨bb, ob + k * 36, none⟩))).run Try.prog W = .ok (.agg (kcells js[k]).toArray) W from fun W hW => atC Try.isAgg59 Try.sizeOf59 _ (kcells_len Gb.out) (kid_cells Hb.out (kb W hW) hlt2))
            have he := fun w => eqKid w Ga.out Gb.out
            have Hs := SL.hid (show (List.range (k + 1)).all (fun i => match ks[i]?, js[i]? with | some x, some y => keq x y | _, _ => false) = ((List.range k).all (fun i => match ks[i]?, js[i]? with | some x, some y => keq x y | _, _ => false) && keq ks[k] js[k]) by
              rw [List.range_succ, List.all_append]
              simp [List.getElem?_eq_getElem hlt, List.getElem?_eq_getElem hlt2])
            have hno : keq ks[k] js[k] = false → (List.range ks.length).all (fun i => match ks[i]?, js[i]? with | some x, some y => keq x y | _, _ => false) = false := fun h => by
              rw [List.all_eq_false]
              exact ⟨k, List.mem_range.2 hlt, by simp [List.getElem?_eq_getElem hlt, List.getElem?_eq_getElem hlt2, h]⟩
            generalize keq ks[k] js[k] = q at *
            generalize kcells ks[k] = xa at *
            generalize kcells js[k] = xb at *
            have Hno := SL.hid hno
            clear hno
            cases q
            all_goals
              go_wp2_with (first
                | go_skip
                | ((with_reducible (show Go.wpList _ _ _ (Go.Oper.mk _ (.load _ _) _ _ _ _ :: _) _ _)); first | (refine wpl_load1 hE 0 rfl rfl rfl rfl (by simp [go_sem]) rfl ?_) | (refine wpl_load1 hE 1 rfl rfl rfl rfl (by simp [go_sem]) rfl ?_) | (refine wpl_load1 hE 2 rfl rfl rfl rfl (by simp [go_sem]) rfl ?_) | (refine wpl_load1 hE 3 rfl rfl rfl rfl (by simp [go_sem]) rfl ?_) | (refine wpl_load1 hE 4 rfl rfl rfl rfl (by simp [go_sem]) rfl ?_) | (refine wpl_load1 hE 5 rfl rfl rfl rfl (by simp [go_sem]) rfl ?_)))
              refine wp_region_held_drew (S := (fun w' => (Instr.loadAt 37 (.pointer (some ⟨b2, 2, none⟩))).run Try.prog w' = .ok (.slice (some ⟨ba, oa, none⟩) ks.length c) w' ∧ (Instr.loadAt 37 (.pointer (some ⟨b3, 2, none⟩))).run Try.prog w' = .ok (.slice (some ⟨bb, ob, none⟩) js.length d) w' ∧ (Instr.loadAt 59 (.pointer (some ⟨ba, oa + k * 36, none⟩))).run Try.prog w' = .ok (.agg xa.toArray) w' ∧ (Instr.loadAt 59 (.pointer (some ⟨bb, ob + k * 36, none⟩))).run Try.prog w' = .ok (.agg xb.toArray) w')) (by kernel_rfl) ⟨atV hE.drew 1 rfl (by simp [go_sem]) rfl, atV hE.drew 0 rfl (by simp [go_sem]) rfl, la.out _ hE.drew.tail.tail, lb.out _ hE.drew.tail.tail⟩ (fun hS => ?_)
              refine wpAnyH_take (i := 0) (oi := { dst := some 34, op := Go.Op.fieldAddr 39 (Go.Operand.tmp 2) 2, type := 0, pos := "law.go:26", after := #[], guard := none }) (v := ?_) rfl (by kernel_rfl) (by kernel_rfl) (by kernel_rfl) (fun _ _ _ h => h) (Or.inl ⟨by rfl, ?_⟩) hS ?_
              rotate_left
              · (intro w hSw; (try dsimp only at hSw); go_simp; (try with_reducible rfl))
              try simp only [Act.put, List.setIfInBounds_toArray, List.set_cons_zero, List.set_cons_succ]
              refine wpAnyH_take (i := 1) (oi := { dst := some 35, op := Go.Op.load 37 (Go.Operand.tmp 34), type := 37, pos := "law.go:26", after := #[{ on := 0, ground := Go.Ground.data }], guard := none }) (v := ?_) rfl (by kernel_rfl) (by kernel_rfl) (by kernel_rfl) (fun _ _ _ h => h) (Or.inl ⟨by rfl, ?_⟩) hS ?_
              rotate_left
              · (intro w hSw; (try dsimp only at hSw); go_simp; (try with_reducible rfl))
              try simp only [Act.put, List.setIfInBounds_toArray, List.set_cons_zero, List.set_cons_succ]
              refine wpAnyH_take (i := 2) (oi := { dst := some 36, op := Go.Op.move (Go.Operand.tmp 5), type := 3, pos := "law.go:26", after := #[], guard := none }) (v := ?_) rfl (by kernel_rfl) (by kernel_rfl) (by kernel_rfl) (fun _ _ _ h => h) (Or.inl ⟨by rfl, ?_⟩) hS ?_
              rotate_left
              · (intro w hSw; (try dsimp only at hSw); go_simp; (try with_reducible rfl))
              try simp only [Act.put, List.setIfInBounds_toArray, List.set_cons_zero, List.set_cons_succ]
              refine wpAnyH_take (i := 3) (oi := { dst := some 37, op := Go.Op.indexAddr 37 (Go.Operand.tmp 35) (Go.Operand.tmp 36), type := 0, pos := "law.go:26", after := #[{ on := 1, ground := Go.Ground.data }, { on := 2, ground := Go.Ground.data }], guard := none }) (v := ?_) rfl (by kernel_rfl) (by kernel_rfl) (by kernel_rfl) (fun _ _ _ h => h) (Or.inl ⟨by rfl, ?_⟩) hS ?_
              rotate_left
              · (intro w hSw; (try dsimp only at hSw); go_simp; (try with_reducible rfl))
              try simp only [Act.put, List.setIfInBounds_toArray, List.set_cons_zero, List.set_cons_succ]
              refine wpAnyH_take (i := 4) (oi := { dst := some 38, op := Go.Op.load 59 (Go.Operand.tmp 37), type := 59, pos := "law.go:26", after := #[{ on := 3, ground := Go.Ground.data }], guard := none }) (v := ?_) rfl (by kernel_rfl) (by kernel_rfl) (by kernel_rfl) (fun _ _ _ h => h) (Or.inl ⟨by rfl, ?_⟩) hS ?_
              rotate_left
              · (intro w hSw; (try dsimp only at hSw); go_simp; (try with_reducible rfl))
              try simp only [Act.put, List.setIfInBounds_toArray, List.set_cons_zero, List.set_cons_succ]
              refine wpAnyH_take (i := 5) (oi := { dst := some 39, op := Go.Op.fieldAddr 39 (Go.Operand.tmp 3) 2, type := 0, pos := "law.go:26", after := #[], guard := none }) (v := ?_) rfl (by kernel_rfl) (by kernel_rfl) (by kernel_rfl) (fun _ _ _ h => h) (Or.inl ⟨by rfl, ?_⟩) hS ?_
              rotate_left
              · (intro w hSw; (try dsimp only at hSw); go_simp; (try with_reducible rfl))
              try simp only [Act.put, List.setIfInBounds_toArray, List.set_cons_zero, List.set_cons_succ]
              refine wpAnyH_take (i := 6) (oi := { dst := some 40, op := Go.Op.load 37 (Go.Operand.tmp 39), type := 37, pos := "law.go:26", after := #[{ on := 5, ground := Go.Ground.data }], guard := none }) (v := ?_) rfl (by kernel_rfl) (by kernel_rfl) (by kernel_rfl) (fun _ _ _ h => h) (Or.inl ⟨by rfl, ?_⟩) hS ?_
              rotate_left
              · (intro w hSw; (try dsimp only at hSw); go_simp; (try with_reducible rfl))
              try simp only [Act.put, List.setIfInBounds_toArray, List.set_cons_zero, List.set_cons_succ]
              refine wpAnyH_take (i := 7) (oi := { dst := some 41, op := Go.Op.move (Go.Operand.tmp 5), type := 3, pos := "law.go:26", after := #[], guard := none }) (v := ?_) rfl (by kernel_rfl) (by kernel_rfl) (by kernel_rfl) (fun _ _ _ h => h) (Or.inl ⟨by rfl, ?_⟩) hS ?_
              rotate_left
              · (intro w hSw; (try dsimp only at hSw); go_simp; (try with_reducible rfl))
              try simp only [Act.put, List.setIfInBounds_toArray, List.set_cons_zero, List.set_cons_succ]
              refine wpAnyH_take (i := 8) (oi := { dst := some 42, op := Go.Op.indexAddr 37 (Go.Operand.tmp 40) (Go.Operand.tmp 41), type := 0, pos := "law.go:26", after := #[{ on := 6, ground := Go.Ground.data }, { on := 7, ground := Go.Ground.data }], guard := none }) (v := ?_) rfl (by kernel_rfl) (by kernel_rfl) (by kernel_rfl) (fun _ _ _ h => h) (Or.inl ⟨by rfl, ?_⟩) hS ?_
              rotate_left
              · (intro w hSw; (try dsimp only at hSw); go_simp; (try with_reducible rfl))
              try simp only [Act.put, List.setIfInBounds_toArray, List.set_cons_zero, List.set_cons_succ]
              refine wpAnyH_take (i := 9) (oi := { dst := some 43, op := Go.Op.load 59 (Go.Operand.tmp 42), type := 59, pos := "law.go:26", after := #[{ on := 8, ground := Go.Ground.data }], guard := none }) (v := ?_) rfl (by kernel_rfl) (by kernel_rfl) (by kernel_rfl) (fun _ _ _ h => h) (Or.inl ⟨by rfl, ?_⟩) hS ?_
              rotate_left
              · (intro w hSw; (try dsimp only at hSw); go_simp; (try with_reducible rfl))
              try simp only [Act.put, List.setIfInBounds_toArray, List.set_cons_zero, List.set_cons_succ]
              refine wpAnyH_take (i := 10) (oi := { dst := some 44, op := Go.Op.binOp Go.BinOp.neq 59 (Go.Operand.tmp 38) (Go.Operand.tmp 43) 59, type := 4, pos := "law.go:26", after := #[{ on := 4, ground := Go.Ground.data }, { on := 9, ground := Go.Ground.data }], guard := none }) (v := ?_) rfl (by kernel_rfl) (by kernel_rfl) (by kernel_rfl) (fun _ _ _ h => h) (Or.inl ⟨by rfl, ?_⟩) hS ?_
              rotate_left
              · (intro w hSw; (try dsimp only at hSw); go_simp; (try with_reducible rfl))
              try simp only [Act.put, List.setIfInBounds_toArray, List.set_cons_zero, List.set_cons_succ]
              refine wpAnyH_done (by kernel_rfl) ?_ _
            · go_wp2
              go_ret
              exact ⟨_, rfl, by rw [R0.out, Hno.out trivial]; rfl, hE.drew.tail.tail⟩
            · go_wp2
              go_roundw
              case rel => exact ⟨k + 1, hlt, by simp, by rw [Hs.out, Hall.out]; rfl, hE.drew⟩
              case measure => simp [intOf]; omega
          · have E2 := SL.hid (show (List.range ks.length).all (fun i => match ks[i]?, js[i]? with | some x, some y => keq x y | _, _ => false) = true by
              have := Hall.out
              rwa [show k = ks.length by omega] at this)
            go_wp2_with (first
              | go_skip
              | ((with_reducible (show Go.wpList _ _ _ (Go.Oper.mk _ (.load _ _) _ _ _ _ :: _) _ _)); first | (refine wpl_load1 hE 0 rfl rfl rfl rfl (by simp [go_sem]) rfl ?_) | (refine wpl_load1 hE 1 rfl rfl rfl rfl (by simp [go_sem]) rfl ?_) | (refine wpl_load1 hE 2 rfl rfl rfl rfl (by simp [go_sem]) rfl ?_) | (refine wpl_load1 hE 3 rfl rfl rfl rfl (by simp [go_sem]) rfl ?_) | (refine wpl_load1 hE 4 rfl rfl rfl rfl (by simp [go_sem]) rfl ?_) | (refine wpl_load1 hE 5 rfl rfl rfl rfl (by simp [go_sem]) rfl ?_)))
            go_ret
            exact ⟨_, rfl, by rw [R0.out, E2.out]; rfl, hE.tail.tail⟩
end Go.Proofs.Ytohdljcpaogokaa
