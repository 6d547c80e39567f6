/-
  May a node be? As the program tells it. Printed by gen_nd4.py.
-/
import Derived.Test.YtohdljcpaogokaaNd3
import Derived.Deep.RegionHeld3
namespace Go.Proofs.Ytohdljcpaogokaa
open Go.RowKit Go.SL

theorem rises_zero (ks : List (List UInt8)) : rises ks 0 = true := rfl
theorem rises_one (ks : List (List UInt8)) : rises ks 1 = true := by simp [rises, riseOk]
theorem rises_succ (ks : List (List UInt8)) (k : Nat) : rises ks (k + 1) = (rises ks k && riseOk ks k) := by
  rw [rises, List.range_succ, List.all_append]
  simp [rises]
theorem rises_not {ks : List (List UInt8)} {k : Nat} (h : k < ks.length) (hn : riseOk ks k = false) : rises ks ks.length = false := by
  rw [rises, List.all_eq_false]
  exact ⟨k, List.mem_range.2 h, by rw [hn]; simp⟩
theorem riseOk_at {ks : List (List UInt8)} {k : Nat} (h : k + 1 < ks.length) : riseOk ks (k + 1) = Op.bytesLess ks[k] ks[k + 1] := by
  rw [riseOk, List.getD_eq_getElem?_getD, List.getD_eq_getElem?_getD, Nat.add_sub_cancel, List.getElem?_eq_getElem h, List.getElem?_eq_getElem (show k < ks.length by omega)]
  simp
def MayRel (ks : List (List UInt8)) (l : List HProp) (i : Value) (wr : World) : Prop := ∃ k : Nat, (k + 1 ≤ ks.length ∨ k = 0) ∧ i = .int .i64 (k + 1 : Nat) ∧ rises ks (k + 1) = true ∧ Ent l wr
abbrev ndB (b : Nat) (T : TypeId) (leaf : Bool) (keys vals : List (List UInt8)) (kids : List Int) (ka va ia : Option Addr) (kc vc ic : Nat) : HProp := pt b (.cells #[.bool leaf, .slice ka keys.length kc, .slice va vals.length vc, .slice ia kids.length ic] T)
abbrev shB (b : Nat) (T : TypeId) (kw vw : Int) : HProp := pt b (.cells #[.int .i64 kw, .int .i64 vw] T)
theorem mayB_rises {kw vw : Int} {n : Nd} (h : rises n.keys n.keys.length = false) : mayB kw vw n = false := by rw [mayB, h]; rfl
theorem mayB_wide {kw vw : Int} {n : Nd} (h : wideL n.keys kw = false) : mayB kw vw n = false := by rw [mayB, h, Bool.false_and, Bool.and_false]
theorem mayB_rest {kw vw : Int} {n : Nd} (h : rises n.keys n.keys.length = true) (h2 : wideL n.keys kw = true) : mayB kw vw n = if n.leaf then mayL kw vw n else mayI kw vw n := by rw [mayB, h, h2]; rfl


set_option maxRecDepth 100000 in
set_option maxHeartbeats 4000000 in
attribute [-go_sem] Instr.loadAt in
theorem may_true {kw vw : Int} {keys vals : List (List UInt8)} {kids : List Int} {ka va ia : Option Addr} {kc vc ic : Nat} (bk : keys.length ≤ 100000) (bv : vals.length ≤ 100000) (bi : kids.length ≤ 100000) {l : List HProp} {w : World} (hE : Ent l w) (hk : Knows l (reads (.slice ka keys.length kc) keys.length (keys.map strv))) (hv : Knows l (reads (.slice va vals.length vc) vals.length (vals.map strv))) (hi : Knows l (reads (.slice ia kids.length ic) kids.length (kids.map intv))) :
    Calls Try.prog 70 #[.agg #[.int .i64 kw, .int .i64 vw], .agg #[.bool true, .slice ka keys.length kc, .slice va vals.length vc, .slice ia kids.length ic]] w (Ret fun v w' => v = .bool (mayB kw vw ⟨true, keys, vals, kids⟩) ∧ Ent l w') := by
  have M1 := SL.hid (mayB_rises (kw := kw) (vw := vw) (n := ⟨true, keys, vals, kids⟩))
  have M2 := SL.hid (mayB_wide (kw := kw) (vw := vw) (n := ⟨true, keys, vals, kids⟩))
  have M3 := SL.hid (mayB_rest (kw := kw) (vw := vw) (n := ⟨true, keys, vals, kids⟩))
  generalize hmb : mayB kw vw ⟨true, keys, vals, kids⟩ = mb at *
  clear hmb
  go_enter Try.func70, Try.ntmps70
  go_wp2_with (first
    | go_skip
    | ((with_reducible (show Go.wpList _ _ _ (Go.Oper.mk _ (.box _ (.tmp 0)) _ _ _ _ :: _) _ _)); refine wpl_box hE rfl rfl rfl ?_; clear hE; intro b2 w hE; simp only [Act.eval, Act.put, List.setIfInBounds_toArray, List.set_cons_zero, List.set_cons_succ, getD_lit, List.getD_cons_succ, List.getD_cons_zero, Value.cells] at hE)
    | ((with_reducible (show Go.wpList _ _ _ (Go.Oper.mk _ (.box _ (.tmp 1)) _ _ _ _ :: _) _ _)); refine wpl_box hE rfl rfl rfl ?_; clear hE; intro b3 w hE; simp only [Act.eval, Act.put, List.setIfInBounds_toArray, List.set_cons_zero, List.set_cons_succ, getD_lit, List.getD_cons_succ, List.getD_cons_zero, Value.cells] at hE)
    | ((with_reducible (show Go.wpList _ _ _ (Go.Oper.mk _ (.load _ _) _ _ _ _ :: _) _ _)); first | (refine wpl_load1 hE 0 rfl rfl rfl rfl (by simp [go_sem]) rfl ?_) | (refine wpl_load1 hE 1 rfl rfl rfl rfl (by simp [go_sem]) rfl ?_) | (refine wpl_load1 hE 2 rfl rfl rfl rfl (by simp [go_sem]) rfl ?_) | (refine wpl_load1 hE 3 rfl rfl rfl rfl (by simp [go_sem]) rfl ?_) | (refine wpl_load1 hE 4 rfl rfl rfl rfl (by simp [go_sem]) rfl ?_) | (refine wpl_load1 hE 5 rfl rfl rfl rfl (by simp [go_sem]) rfl ?_)))
  go_loopw [5] (fun i wr => MayRel keys (ndB b3 70 true keys vals kids ka va ia kc vc ic :: shB b2 68 kw vw :: l) i wr) (fun i _ => keys.length + 1 - (intOf i).toNat)
  case atStart => exact ⟨0, .inr rfl, rfl, rises_one keys, hE⟩
  case round =>
    clear hE
    obtain ⟨k, hkl, rfl, hri, hE⟩ := hrel
    have hk5 : k ≤ 100000 := by omega
    have hw0 : IntKind.i64.wrap ((k : Int) + 1) = (k : Int) + 1 := wrap_id (by omega)
    have hw9 : IntKind.i64.wrap ((k : Int) + 1 - 1) = (k : Int) := by rw [wrap_id (by omega)]; omega
    have hw8 : IntKind.i64.wrap (k : Int) = (k : Int) := wrap_id (by omega)
    have hk0 : (0 : Int) ≤ (k : Int) + 1 := by omega
    by_cases hlt : k + 1 < keys.length
    · have hlt1 : k < keys.length := by omega
      have Hs := SL.hid (rises_succ keys (k + 1))
      have Hn := SL.hid (rises_not hlt)
      have Hr := SL.hid (riseOk_at hlt)
      have Hri := SL.hid hri
      clear hri
      obtain ⟨bb, bo, rfl, _⟩ := reads_map (hk _ (hE.suf (by repeat (first | exact List.suffix_refl _ | refine List.IsSuffix.trans ?_ (List.suffix_cons _ _))))) hlt1
      have La := SL.hid (fun W (hW : Ent l W) => show W.cell? ⟨bb, bo + k, none⟩ = some (strv keys[k]) from by
        obtain ⟨b', o', e, h⟩ := reads_map (hk _ hW) hlt1
        cases e
        exact h)
      have Lb := SL.hid (fun W (hW : Ent l W) => show W.cell? ⟨bb, bo + (k + 1), none⟩ = some (strv keys[k + 1]) from by
        obtain ⟨b', o', e, h⟩ := reads_map (hk _ hW) hlt
        cases e
        exact h)
      generalize keys[k] = x at *
      generalize keys[k + 1] = y at *
      cases hb : Op.bytesLess x y with
      | true =>
        have Hz := SL.hid (show rises keys (k + 1 + 1) = true by rw [Hs.out, Hri.out, Hr.out, hb]; rfl)
        go_wp2_with (first | go_skip | ((with_reducible (show Go.wpList _ _ _ (Go.Oper.mk _ (.load _ _) _ _ _ _ :: _) _ _)); first | (refine wpl_load1 hE 0 rfl rfl rfl rfl (by simp [go_sem]) rfl ?_) | (refine wpl_load1 hE 1 rfl rfl rfl rfl (by simp [go_sem]) rfl ?_) | (refine wpl_load1 hE 2 rfl rfl rfl rfl (by simp [go_sem]) rfl ?_) | (refine wpl_load1 hE 3 rfl rfl rfl rfl (by simp [go_sem]) rfl ?_) | (refine wpl_load1 hE 4 rfl rfl rfl rfl (by simp [go_sem]) rfl ?_) | (refine wpl_load1 hE 5 rfl rfl rfl rfl (by simp [go_sem]) rfl ?_)))
        refine wp_region_held_drew (S := (fun w' => ((Instr.loadAt 63 (.pointer (some ⟨b3, 1, none⟩))).run Try.prog w' = .ok (.slice (some ⟨bb, bo, none⟩) keys.length kc) w') ∧ ((Instr.loadAt 9 (.pointer (some ⟨bb, bo + k, none⟩))).run Try.prog w' = .ok (.string ⟨x.toArray⟩) w') ∧ ((Instr.loadAt 9 (.pointer (some ⟨bb, bo + (k + 1), none⟩))).run Try.prog w' = .ok (.string ⟨y.toArray⟩) w'))) (by kernel_rfl) ⟨(atVm hE.drew (by repeat (first | exact List.Mem.head _ | refine List.Mem.tail _ ?_)) (by simp [go_sem]) rfl), (atCell (La.out _ (hE.drew.suf (by repeat (first | exact List.suffix_refl _ | refine List.IsSuffix.trans ?_ (List.suffix_cons _ _))))) (by simp [go_sem])), (atCell (Lb.out _ (hE.drew.suf (by repeat (first | exact List.suffix_refl _ | refine List.IsSuffix.trans ?_ (List.suffix_cons _ _))))) (by simp [go_sem]))⟩ (fun hS => ?_)
        refine takeW 0 ⟨some 14, .fieldAddr 70 (.tmp 3) 1, 0, "node.go:64", #[], none⟩ ?_ (.inl ⟨by rfl, ?_⟩) hS ?_
        rotate_left
        · (intro w hSw; (try dsimp only at hSw); go_simp; (try with_reducible rfl))
        try simp only [Act.put, sb, s0, sz]
        refine takeW 1 ⟨some 15, .load 63 (.tmp 14), 63, "node.go:64", #[⟨0, .data⟩], none⟩ ?_ (.inl ⟨by rfl, ?_⟩) hS ?_
        rotate_left
        · (intro w hSw; (try dsimp only at hSw); go_simp; (try with_reducible rfl))
        try simp only [Act.put, sb, s0, sz]
        refine takeW 2 ⟨some 16, .move (.tmp 5), 3, "node.go:64", #[], none⟩ ?_ (.inl ⟨by rfl, ?_⟩) hS ?_
        rotate_left
        · (intro w hSw; (try dsimp only at hSw); go_simp; (try with_reducible rfl))
        try simp only [Act.put, sb, s0, sz]
        refine takeW 3 ⟨some 17, .binOp .sub 3 (.tmp 16) (.const (.int .i64 1)) 3, 3, "node.go:64", #[⟨2, .data⟩], none⟩ ?_ (.inl ⟨by rfl, ?_⟩) hS ?_
        rotate_left
        · (intro w hSw; (try dsimp only at hSw); go_simp; (try with_reducible rfl))
        try simp only [Act.put, sb, s0, sz]
        refine takeW 4 ⟨some 18, .indexAddr 63 (.tmp 15) (.tmp 17), 0, "node.go:64", #[⟨1, .data⟩, ⟨3, .data⟩], none⟩ ?_ (.inl ⟨by rfl, ?_⟩) hS ?_
        rotate_left
        · (intro w hSw; (try dsimp only at hSw); go_simp; (try with_reducible rfl))
        try simp only [Act.put, sb, s0, sz]
        refine takeW 5 ⟨some 19, .load 9 (.tmp 18), 9, "node.go:64", #[⟨4, .data⟩], none⟩ ?_ (.inl ⟨by rfl, ?_⟩) hS ?_
        rotate_left
        · (intro w hSw; (try dsimp only at hSw); go_simp; (try with_reducible rfl))
        try simp only [Act.put, sb, s0, sz]
        refine takeW 6 ⟨some 20, .fieldAddr 70 (.tmp 3) 1, 0, "node.go:64", #[], none⟩ ?_ (.inl ⟨by rfl, ?_⟩) hS ?_
        rotate_left
        · (intro w hSw; (try dsimp only at hSw); go_simp; (try with_reducible rfl))
        try simp only [Act.put, sb, s0, sz]
        refine takeW 7 ⟨some 21, .load 63 (.tmp 20), 63, "node.go:64", #[⟨6, .data⟩], none⟩ ?_ (.inl ⟨by rfl, ?_⟩) hS ?_
        rotate_left
        · (intro w hSw; (try dsimp only at hSw); go_simp; (try with_reducible rfl))
        try simp only [Act.put, sb, s0, sz]
        refine takeW 8 ⟨some 22, .move (.tmp 5), 3, "node.go:64", #[], none⟩ ?_ (.inl ⟨by rfl, ?_⟩) hS ?_
        rotate_left
        · (intro w hSw; (try dsimp only at hSw); go_simp; (try with_reducible rfl))
        try simp only [Act.put, sb, s0, sz]
        refine takeW 9 ⟨some 23, .indexAddr 63 (.tmp 21) (.tmp 22), 0, "node.go:64", #[⟨7, .data⟩, ⟨8, .data⟩], none⟩ ?_ (.inl ⟨by rfl, ?_⟩) hS ?_
        rotate_left
        · (intro w hSw; (try dsimp only at hSw); go_simp; (try with_reducible rfl))
        try simp only [Act.put, sb, s0, sz]
        refine takeW 10 ⟨some 24, .load 9 (.tmp 23), 9, "node.go:64", #[⟨9, .data⟩], none⟩ ?_ (.inl ⟨by rfl, ?_⟩) hS ?_
        rotate_left
        · (intro w hSw; (try dsimp only at hSw); go_simp; (try with_reducible rfl))
        try simp only [Act.put, sb, s0, sz]
        refine takeW 11 ⟨some 25, .binOp .geq 9 (.tmp 19) (.tmp 24) 9, 4, "node.go:64", #[⟨5, .data⟩, ⟨10, .data⟩], none⟩ ?_ (.inl ⟨by rfl, ?_⟩) hS ?_
        rotate_left
        · (intro w hSw; (try dsimp only at hSw); go_simp; (try with_reducible rfl))
        try simp only [Act.put, sb, s0, sz]
        refine wpAnyH_done (by kernel_rfl) ?_ _
        go_wp2
        go_roundw
        case rel => exact ⟨k + 1, .inl (by omega), by first | rfl | simp, Hz.out, hE.drew⟩
        case measure => simp [intOf] <;> omega
      | false =>
        have Hz := SL.hid (show mb = false from M1.out (Hn.out (by rw [Hr.out, hb])))
        go_wp2_with (first | go_skip | ((with_reducible (show Go.wpList _ _ _ (Go.Oper.mk _ (.load _ _) _ _ _ _ :: _) _ _)); first | (refine wpl_load1 hE 0 rfl rfl rfl rfl (by simp [go_sem]) rfl ?_) | (refine wpl_load1 hE 1 rfl rfl rfl rfl (by simp [go_sem]) rfl ?_) | (refine wpl_load1 hE 2 rfl rfl rfl rfl (by simp [go_sem]) rfl ?_) | (refine wpl_load1 hE 3 rfl rfl rfl rfl (by simp [go_sem]) rfl ?_) | (refine wpl_load1 hE 4 rfl rfl rfl rfl (by simp [go_sem]) rfl ?_) | (refine wpl_load1 hE 5 rfl rfl rfl rfl (by simp [go_sem]) rfl ?_)))
        refine wp_region_held_drew (S := (fun w' => ((Instr.loadAt 63 (.pointer (some ⟨b3, 1, none⟩))).run Try.prog w' = .ok (.slice (some ⟨bb, bo, none⟩) keys.length kc) w') ∧ ((Instr.loadAt 9 (.pointer (some ⟨bb, bo + k, none⟩))).run Try.prog w' = .ok (.string ⟨x.toArray⟩) w') ∧ ((Instr.loadAt 9 (.pointer (some ⟨bb, bo + (k + 1), none⟩))).run Try.prog w' = .ok (.string ⟨y.toArray⟩) w'))) (by kernel_rfl) ⟨(atVm hE.drew (by repeat (first | exact List.Mem.head _ | refine List.Mem.tail _ ?_)) (by simp [go_sem]) rfl), (atCell (La.out _ (hE.drew.suf (by repeat (first | exact List.suffix_refl _ | refine List.IsSuffix.trans ?_ (List.suffix_cons _ _))))) (by simp [go_sem])), (atCell (Lb.out _ (hE.drew.suf (by repeat (first | exact List.suffix_refl _ | refine List.IsSuffix.trans ?_ (List.suffix_cons _ _))))) (by simp [go_sem]))⟩ (fun hS => ?_)
        refine takeW 0 ⟨some 14, .fieldAddr 70 (.tmp 3) 1, 0, "node.go:64", #[], none⟩ ?_ (.inl ⟨by rfl, ?_⟩) hS ?_
        rotate_left
        · (intro w hSw; (try dsimp only at hSw); go_simp; (try with_reducible rfl))
        try simp only [Act.put, sb, s0, sz]
        refine takeW 1 ⟨some 15, .load 63 (.tmp 14), 63, "node.go:64", #[⟨0, .data⟩], none⟩ ?_ (.inl ⟨by rfl, ?_⟩) hS ?_
        rotate_left
        · (intro w hSw; (try dsimp only at hSw); go_simp; (try with_reducible rfl))
        try simp only [Act.put, sb, s0, sz]
        refine takeW 2 ⟨some 16, .move (.tmp 5), 3, "node.go:64", #[], none⟩ ?_ (.inl ⟨by rfl, ?_⟩) hS ?_
        rotate_left
        · (intro w hSw; (try dsimp only at hSw); go_simp; (try with_reducible rfl))
        try simp only [Act.put, sb, s0, sz]
        refine takeW 3 ⟨some 17, .binOp .sub 3 (.tmp 16) (.const (.int .i64 1)) 3, 3, "node.go:64", #[⟨2, .data⟩], none⟩ ?_ (.inl ⟨by rfl, ?_⟩) hS ?_
        rotate_left
        · (intro w hSw; (try dsimp only at hSw); go_simp; (try with_reducible rfl))
        try simp only [Act.put, sb, s0, sz]
        refine takeW 4 ⟨some 18, .indexAddr 63 (.tmp 15) (.tmp 17), 0, "node.go:64", #[⟨1, .data⟩, ⟨3, .data⟩], none⟩ ?_ (.inl ⟨by rfl, ?_⟩) hS ?_
        rotate_left
        · (intro w hSw; (try dsimp only at hSw); go_simp; (try with_reducible rfl))
        try simp only [Act.put, sb, s0, sz]
        refine takeW 5 ⟨some 19, .load 9 (.tmp 18), 9, "node.go:64", #[⟨4, .data⟩], none⟩ ?_ (.inl ⟨by rfl, ?_⟩) hS ?_
        rotate_left
        · (intro w hSw; (try dsimp only at hSw); go_simp; (try with_reducible rfl))
        try simp only [Act.put, sb, s0, sz]
        refine takeW 6 ⟨some 20, .fieldAddr 70 (.tmp 3) 1, 0, "node.go:64", #[], none⟩ ?_ (.inl ⟨by rfl, ?_⟩) hS ?_
        rotate_left
        · (intro w hSw; (try dsimp only at hSw); go_simp; (try with_reducible rfl))
        try simp only [Act.put, sb, s0, sz]
        refine takeW 7 ⟨some 21, .load 63 (.tmp 20), 63, "node.go:64", #[⟨6, .data⟩], none⟩ ?_ (.inl ⟨by rfl, ?_⟩) hS ?_
        rotate_left
        · (intro w hSw; (try dsimp only at hSw); go_simp; (try with_reducible rfl))
        try simp only [Act.put, sb, s0, sz]
        refine takeW 8 ⟨some 22, .move (.tmp 5), 3, "node.go:64", #[], none⟩ ?_ (.inl ⟨by rfl, ?_⟩) hS ?_
        rotate_left
        · (intro w hSw; (try dsimp only at hSw); go_simp; (try with_reducible rfl))
        try simp only [Act.put, sb, s0, sz]
        refine takeW 9 ⟨some 23, .indexAddr 63 (.tmp 21) (.tmp 22), 0, "node.go:64", #[⟨7, .data⟩, ⟨8, .data⟩], none⟩ ?_ (.inl ⟨by rfl, ?_⟩) hS ?_
        rotate_left
        · (intro w hSw; (try dsimp only at hSw); go_simp; (try with_reducible rfl))
        try simp only [Act.put, sb, s0, sz]
        refine takeW 10 ⟨some 24, .load 9 (.tmp 23), 9, "node.go:64", #[⟨9, .data⟩], none⟩ ?_ (.inl ⟨by rfl, ?_⟩) hS ?_
        rotate_left
        · (intro w hSw; (try dsimp only at hSw); go_simp; (try with_reducible rfl))
        try simp only [Act.put, sb, s0, sz]
        refine takeW 11 ⟨some 25, .binOp .geq 9 (.tmp 19) (.tmp 24) 9, 4, "node.go:64", #[⟨5, .data⟩, ⟨10, .data⟩], none⟩ ?_ (.inl ⟨by rfl, ?_⟩) hS ?_
        rotate_left
        · (intro w hSw; (try dsimp only at hSw); go_simp; (try with_reducible rfl))
        try simp only [Act.put, sb, s0, sz]
        refine wpAnyH_done (by kernel_rfl) ?_ _
        go_wp2
        go_ret
        exact ⟨_, rfl, by rw [Hz.out]; rfl, hE.drew.tail.tail⟩
    · have Hri := SL.hid (show rises keys keys.length = true by
        rcases hkl with h | rfl
        · rwa [show k + 1 = keys.length by omega] at hri
        · rcases Nat.eq_zero_or_pos keys.length with h | h
          · rw [h]; rfl
          · rwa [show 0 + 1 = keys.length by omega] at hri)
      clear hri hkl
      have hkd : decide (k + 1 < keys.length) = false := decide_eq_false hlt
      cases hwd : wideL keys kw with
      | false =>
        have Hwd := SL.hid hwd
        have Hz := SL.hid (show mb = false from M2.out hwd)
        clear hwd
        go_wp2_with (first
          | go_skip
          | (go_at_call 104; have H := wideT_any (n := kw) (show keys.length ≤ 1000000 by omega) hE (hk.suf (by repeat (first | exact List.suffix_refl _ | refine List.IsSuffix.trans ?_ (List.suffix_cons _ _)))); rw [Hwd.out] at H; refine H.mono ?_; clear H hE; rintro e w2 ⟨v, rfl, rfl, hE⟩)
          | ((with_reducible (show Go.wpList _ _ _ (Go.Oper.mk _ (.load _ _) _ _ _ _ :: _) _ _)); first | (refine wpl_load1 hE 0 rfl rfl rfl rfl (by simp [go_sem]) rfl ?_) | (refine wpl_load1 hE 1 rfl rfl rfl rfl (by simp [go_sem]) rfl ?_) | (refine wpl_load1 hE 2 rfl rfl rfl rfl (by simp [go_sem]) rfl ?_) | (refine wpl_load1 hE 3 rfl rfl rfl rfl (by simp [go_sem]) rfl ?_) | (refine wpl_load1 hE 4 rfl rfl rfl rfl (by simp [go_sem]) rfl ?_) | (refine wpl_load1 hE 5 rfl rfl rfl rfl (by simp [go_sem]) rfl ?_)))
        go_ret
        exact ⟨_, rfl, by rw [Hz.out]; rfl, hE.tail.tail⟩
      | true =>
        have Hwd := SL.hid hwd
        have Hz := SL.hid (show mb = mayL kw vw ⟨true, keys, vals, kids⟩ from M3.out Hri.out hwd)
        clear hwd M1 M2 M3
        have R := SL.hid (show mb = (((kids.length : Int) == 0) && (((keys.length : Int) == (vals.length : Int)) && (wideL vals vw && decide ((keys.length : Int) ≤ capN kw vw)))) from Hz.out)
        clear Hz
        have hC := fun {l : List HProp} {w : World} (h : Ent l w) => Cap_shape (kw := kw) (vw := vw) h
        generalize capN kw vw = cap at *
        have hW := fun {l : List HProp} {w : World} (h : Ent l w) (k : Knows l (reads (.slice va vals.length vc) vals.length (vals.map strv))) => wideT_any (n := vw) (show vals.length ≤ 1000000 by omega) h k
        generalize wideL vals vw = wv at *
        cases c0 : ((kids.length : Int) == 0) with
        | false =>
          have Rz := SL.hid (show mb = false by rw [R.out, c0]; rfl)
          go_wp2_with (first
            | go_skip
            | (go_at_call 104; have H := wideT_any (n := kw) (show keys.length ≤ 1000000 by omega) hE (hk.suf (by repeat (first | exact List.suffix_refl _ | refine List.IsSuffix.trans ?_ (List.suffix_cons _ _)))); rw [Hwd.out] at H; refine H.mono ?_; clear H hE; rintro e w2 ⟨v, rfl, rfl, hE⟩)
            | ((with_reducible (show Go.wpList _ _ _ (Go.Oper.mk _ (.load _ _) _ _ _ _ :: _) _ _)); first | (refine wpl_load1 hE 0 rfl rfl rfl rfl (by simp [go_sem]) rfl ?_) | (refine wpl_load1 hE 1 rfl rfl rfl rfl (by simp [go_sem]) rfl ?_) | (refine wpl_load1 hE 2 rfl rfl rfl rfl (by simp [go_sem]) rfl ?_) | (refine wpl_load1 hE 3 rfl rfl rfl rfl (by simp [go_sem]) rfl ?_) | (refine wpl_load1 hE 4 rfl rfl rfl rfl (by simp [go_sem]) rfl ?_) | (refine wpl_load1 hE 5 rfl rfl rfl rfl (by simp [go_sem]) rfl ?_)))
          refine wp_region_held_drew (S := (fun w' => ((Instr.loadAt 63 (.pointer (some ⟨b3, 1, none⟩))).run Try.prog w' = .ok (.slice ka keys.length kc) w') ∧ ((Instr.loadAt 63 (.pointer (some ⟨b3, 2, none⟩))).run Try.prog w' = .ok (.slice va vals.length vc) w') ∧ ((Instr.loadAt 64 (.pointer (some ⟨b3, 3, none⟩))).run Try.prog w' = .ok (.slice ia kids.length ic) w') ∧ ((Instr.loadAt 3 (.pointer (some ⟨b2, 1, none⟩))).run Try.prog w' = .ok (.int .i64 vw) w') ∧ ((Instr.loadAt 68 (.pointer (some ⟨b2, 0, none⟩))).run Try.prog w' = .ok (.agg [.int .i64 kw, .int .i64 vw].toArray) w'))) (by kernel_rfl) ⟨(atVm hE.drew (by repeat (first | exact List.Mem.head _ | refine List.Mem.tail _ ?_)) (by simp [go_sem]) rfl), (atVm hE.drew (by repeat (first | exact List.Mem.head _ | refine List.Mem.tail _ ?_)) (by simp [go_sem]) rfl), (atVm hE.drew (by repeat (first | exact List.Mem.head _ | refine List.Mem.tail _ ?_)) (by simp [go_sem]) rfl), (atVm hE.drew (by repeat (first | exact List.Mem.head _ | refine List.Mem.tail _ ?_)) (by simp [go_sem]) rfl), (atWm hE.drew (by repeat (first | exact List.Mem.head _ | refine List.Mem.tail _ ?_)) Try.isAgg68 Try.sizeOf68 rfl)⟩ (fun hS => ?_)
          refine takeW 0 ⟨some 34, .fieldAddr 70 (.tmp 3) 3, 0, "node.go:72", #[], none⟩ ?_ (.inl ⟨by rfl, ?_⟩) hS ?_
          rotate_left
          · (intro w hSw; (try dsimp only at hSw); go_simp; (try with_reducible rfl))
          try simp only [Act.put, sb, s0, sz]
          refine takeW 1 ⟨some 35, .load 64 (.tmp 34), 64, "node.go:72", #[⟨0, .data⟩], none⟩ ?_ (.inl ⟨by rfl, ?_⟩) hS ?_
          rotate_left
          · (intro w hSw; (try dsimp only at hSw); go_simp; (try with_reducible rfl))
          try simp only [Act.put, sb, s0, sz]
          refine takeW 2 ⟨some 36, .call { callee := .builtin .len, args := #[.tmp 35], argTypes := #[64] }, 3, "node.go:72", #[⟨1, .data⟩], none⟩ ?_ (.inl ⟨by rfl, ?_⟩) hS ?_
          rotate_left
          · (intro w hSw; (try dsimp only at hSw); go_simp; (try with_reducible rfl))
          try simp only [Act.put, sb, s0, sz]
          refine takeW 3 ⟨some 37, .binOp .eql 3 (.tmp 36) (.const (.int .i64 0)) 3, 4, "node.go:72", #[⟨2, .data⟩], none⟩ ?_ (.inl ⟨by rfl, ?_⟩) hS ?_
          rotate_left
          · (intro w hSw; (try dsimp only at hSw); go_simp; (try with_reducible rfl))
          try simp only [Act.put, sb, s0, sz]
          refine takeW 4 ⟨some 38, .move (.tmp 37), 4, "node.go:72", #[⟨3, .data⟩], none⟩ ?_ (.inl ⟨by rfl, ?_⟩) hS ?_
          rotate_left
          · (intro w hSw; (try dsimp only at hSw); go_simp; (try with_reducible rfl))
          try simp only [Act.put, sb, s0, sz]
          refine takeW 5 ⟨some 39, .fieldAddr 70 (.tmp 3) 1, 0, "node.go:72", #[⟨4, .guard⟩], some (4, true)⟩ undef (.inr ⟨by rfl, rfl⟩) hS ?_; try simp only [Act.put, sb, s0, sz]
          refine takeW 6 ⟨some 40, .load 63 (.tmp 39), 63, "node.go:72", #[⟨5, .data⟩, ⟨4, .guard⟩], some (4, true)⟩ undef (.inr ⟨by rfl, rfl⟩) hS ?_; try simp only [Act.put, sb, s0, sz]
          refine takeW 7 ⟨some 41, .call { callee := .builtin .len, args := #[.tmp 40], argTypes := #[63] }, 3, "node.go:72", #[⟨6, .data⟩, ⟨4, .guard⟩], some (4, true)⟩ undef (.inr ⟨by rfl, rfl⟩) hS ?_; try simp only [Act.put, sb, s0, sz]
          refine takeW 8 ⟨some 42, .fieldAddr 70 (.tmp 3) 2, 0, "node.go:72", #[⟨4, .guard⟩], some (4, true)⟩ undef (.inr ⟨by rfl, rfl⟩) hS ?_; try simp only [Act.put, sb, s0, sz]
          refine takeW 9 ⟨some 43, .load 63 (.tmp 42), 63, "node.go:72", #[⟨8, .data⟩, ⟨4, .guard⟩], some (4, true)⟩ undef (.inr ⟨by rfl, rfl⟩) hS ?_; try simp only [Act.put, sb, s0, sz]
          refine takeW 10 ⟨some 44, .call { callee := .builtin .len, args := #[.tmp 43], argTypes := #[63] }, 3, "node.go:72", #[⟨9, .data⟩, ⟨4, .guard⟩], some (4, true)⟩ undef (.inr ⟨by rfl, rfl⟩) hS ?_; try simp only [Act.put, sb, s0, sz]
          refine takeW 11 ⟨some 45, .binOp .eql 3 (.tmp 41) (.tmp 44) 3, 4, "node.go:72", #[⟨7, .data⟩, ⟨10, .data⟩, ⟨4, .guard⟩], some (4, true)⟩ undef (.inr ⟨by rfl, rfl⟩) hS ?_; try simp only [Act.put, sb, s0, sz]
          refine takeW 12 ⟨some 46, .pick (.tmp 38) (.tmp 45) (.const (.bool false)), 4, "node.go:72", #[⟨4, .data⟩, ⟨11, .data⟩], none⟩ ?_ (.inl ⟨by rfl, ?_⟩) hS ?_
          rotate_left
          · (intro w hSw; (try dsimp only at hSw); go_simp; (try with_reducible rfl))
          try simp only [Act.put, sb, s0, sz]
          refine takeW 13 ⟨some 47, .move (.tmp 46), 4, "node.go:72", #[⟨12, .data⟩, ⟨4, .chain⟩], none⟩ ?_ (.inl ⟨by rfl, ?_⟩) hS ?_
          rotate_left
          · (intro w hSw; (try dsimp only at hSw); go_simp; (try with_reducible rfl))
          try simp only [Act.put, sb, s0, sz]
          refine takeW 14 ⟨some 48, .fieldAddr 70 (.tmp 3) 2, 0, "node.go:72", #[⟨13, .guard⟩], some (13, true)⟩ undef (.inr ⟨by rfl, rfl⟩) hS ?_; try simp only [Act.put, sb, s0, sz]
          refine takeW 15 ⟨some 49, .load 63 (.tmp 48), 63, "node.go:72", #[⟨14, .data⟩, ⟨13, .guard⟩], some (13, true)⟩ undef (.inr ⟨by rfl, rfl⟩) hS ?_; try simp only [Act.put, sb, s0, sz]
          refine takeW 16 ⟨some 50, .fieldAddr 68 (.tmp 2) 1, 0, "node.go:72", #[⟨13, .guard⟩], some (13, true)⟩ undef (.inr ⟨by rfl, rfl⟩) hS ?_; try simp only [Act.put, sb, s0, sz]
          refine takeW 17 ⟨some 51, .load 3 (.tmp 50), 3, "node.go:72", #[⟨16, .data⟩, ⟨13, .guard⟩], some (13, true)⟩ undef (.inr ⟨by rfl, rfl⟩) hS ?_; try simp only [Act.put, sb, s0, sz]
          refine takeW 18 ⟨some 52, .call { callee := .value (.func 104), args := #[.tmp 49, .tmp 51], argTypes := #[63, 3] }, 4, "node.go:72", #[⟨15, .data⟩, ⟨17, .data⟩, ⟨13, .chain⟩, ⟨13, .guard⟩], some (13, true)⟩ undef (.inr ⟨by rfl, rfl⟩) hS ?_; try simp only [Act.put, sb, s0, sz]
          refine takeW 19 ⟨some 53, .pick (.tmp 47) (.tmp 52) (.const (.bool false)), 4, "node.go:72", #[⟨13, .data⟩, ⟨18, .data⟩], none⟩ ?_ (.inl ⟨by rfl, ?_⟩) hS ?_
          rotate_left
          · (intro w hSw; (try dsimp only at hSw); go_simp; (try with_reducible rfl))
          try simp only [Act.put, sb, s0, sz]
          refine takeW 20 ⟨some 54, .move (.tmp 53), 4, "node.go:72", #[⟨19, .data⟩, ⟨18, .chain⟩], none⟩ ?_ (.inl ⟨by rfl, ?_⟩) hS ?_
          rotate_left
          · (intro w hSw; (try dsimp only at hSw); go_simp; (try with_reducible rfl))
          try simp only [Act.put, sb, s0, sz]
          refine takeW 21 ⟨some 55, .fieldAddr 70 (.tmp 3) 1, 0, "node.go:72", #[⟨20, .guard⟩], some (20, true)⟩ undef (.inr ⟨by rfl, rfl⟩) hS ?_; try simp only [Act.put, sb, s0, sz]
          refine takeW 22 ⟨some 56, .load 63 (.tmp 55), 63, "node.go:72", #[⟨21, .data⟩, ⟨20, .guard⟩], some (20, true)⟩ undef (.inr ⟨by rfl, rfl⟩) hS ?_; try simp only [Act.put, sb, s0, sz]
          refine takeW 23 ⟨some 57, .call { callee := .builtin .len, args := #[.tmp 56], argTypes := #[63] }, 3, "node.go:72", #[⟨22, .data⟩, ⟨20, .guard⟩], some (20, true)⟩ undef (.inr ⟨by rfl, rfl⟩) hS ?_; try simp only [Act.put, sb, s0, sz]
          refine takeW 24 ⟨some 58, .load 68 (.tmp 2), 68, "node.go:72", #[⟨20, .guard⟩], some (20, true)⟩ undef (.inr ⟨by rfl, rfl⟩) hS ?_; try simp only [Act.put, sb, s0, sz]
          refine takeW 25 ⟨some 59, .call { callee := .value (.func 29), args := #[.tmp 58], argTypes := #[68] }, 3, "node.go:72", #[⟨24, .data⟩, ⟨20, .chain⟩, ⟨20, .guard⟩], some (20, true)⟩ undef (.inr ⟨by rfl, rfl⟩) hS ?_; try simp only [Act.put, sb, s0, sz]
          refine takeW 26 ⟨some 60, .binOp .leq 3 (.tmp 57) (.tmp 59) 3, 4, "node.go:72", #[⟨23, .data⟩, ⟨25, .data⟩, ⟨20, .guard⟩], some (20, true)⟩ undef (.inr ⟨by rfl, rfl⟩) hS ?_; try simp only [Act.put, sb, s0, sz]
          refine takeW 27 ⟨some 61, .pick (.tmp 54) (.tmp 60) (.const (.bool false)), 4, "node.go:72", #[⟨20, .data⟩, ⟨26, .data⟩], none⟩ ?_ (.inl ⟨by rfl, ?_⟩) hS ?_
          rotate_left
          · (intro w hSw; (try dsimp only at hSw); go_simp; (try with_reducible rfl))
          try simp only [Act.put, sb, s0, sz]
          refine takeW 28 ⟨some 4, .assign (.tmp 61), 4, "node.go:72", #[⟨27, .data⟩, ⟨25, .chain⟩, ⟨0, .phase⟩, ⟨1, .phase⟩, ⟨2, .phase⟩, ⟨3, .phase⟩, ⟨4, .phase⟩, ⟨5, .phase⟩, ⟨6, .phase⟩, ⟨7, .phase⟩, ⟨8, .phase⟩, ⟨9, .phase⟩, ⟨10, .phase⟩, ⟨11, .phase⟩, ⟨12, .phase⟩, ⟨13, .phase⟩, ⟨14, .phase⟩, ⟨15, .phase⟩, ⟨16, .phase⟩, ⟨17, .phase⟩, ⟨18, .phase⟩, ⟨19, .phase⟩, ⟨20, .phase⟩, ⟨21, .phase⟩, ⟨22, .phase⟩, ⟨23, .phase⟩, ⟨24, .phase⟩, ⟨25, .phase⟩, ⟨26, .phase⟩, ⟨27, .phase⟩], none⟩ ?_ (.inl ⟨by rfl, ?_⟩) hS ?_
          rotate_left
          · (intro w hSw; (try dsimp only at hSw); go_simp; (try with_reducible rfl))
          try simp only [Act.put, sb, s0, sz]
          refine wpAnyH_done (by kernel_rfl) ?_ _
          go_wp2
          go_ret
          exact ⟨_, rfl, by rw [Rz.out]; rfl, hE.drew.tail.tail⟩
        | true =>
          cases c1 : ((keys.length : Int) == (vals.length : Int)) with
          | false =>
            have Rz := SL.hid (show mb = false by rw [R.out, c0, c1]; rfl)
            go_wp2_with (first
              | go_skip
              | (go_at_call 104; have H := wideT_any (n := kw) (show keys.length ≤ 1000000 by omega) hE (hk.suf (by repeat (first | exact List.suffix_refl _ | refine List.IsSuffix.trans ?_ (List.suffix_cons _ _)))); rw [Hwd.out] at H; refine H.mono ?_; clear H hE; rintro e w2 ⟨v, rfl, rfl, hE⟩)
              | ((with_reducible (show Go.wpList _ _ _ (Go.Oper.mk _ (.load _ _) _ _ _ _ :: _) _ _)); first | (refine wpl_load1 hE 0 rfl rfl rfl rfl (by simp [go_sem]) rfl ?_) | (refine wpl_load1 hE 1 rfl rfl rfl rfl (by simp [go_sem]) rfl ?_) | (refine wpl_load1 hE 2 rfl rfl rfl rfl (by simp [go_sem]) rfl ?_) | (refine wpl_load1 hE 3 rfl rfl rfl rfl (by simp [go_sem]) rfl ?_) | (refine wpl_load1 hE 4 rfl rfl rfl rfl (by simp [go_sem]) rfl ?_) | (refine wpl_load1 hE 5 rfl rfl rfl rfl (by simp [go_sem]) rfl ?_)))
            refine wp_region_held_drew (S := (fun w' => ((Instr.loadAt 63 (.pointer (some ⟨b3, 1, none⟩))).run Try.prog w' = .ok (.slice ka keys.length kc) w') ∧ ((Instr.loadAt 63 (.pointer (some ⟨b3, 2, none⟩))).run Try.prog w' = .ok (.slice va vals.length vc) w') ∧ ((Instr.loadAt 64 (.pointer (some ⟨b3, 3, none⟩))).run Try.prog w' = .ok (.slice ia kids.length ic) w') ∧ ((Instr.loadAt 3 (.pointer (some ⟨b2, 1, none⟩))).run Try.prog w' = .ok (.int .i64 vw) w') ∧ ((Instr.loadAt 68 (.pointer (some ⟨b2, 0, none⟩))).run Try.prog w' = .ok (.agg [.int .i64 kw, .int .i64 vw].toArray) w'))) (by kernel_rfl) ⟨(atVm hE.drew (by repeat (first | exact List.Mem.head _ | refine List.Mem.tail _ ?_)) (by simp [go_sem]) rfl), (atVm hE.drew (by repeat (first | exact List.Mem.head _ | refine List.Mem.tail _ ?_)) (by simp [go_sem]) rfl), (atVm hE.drew (by repeat (first | exact List.Mem.head _ | refine List.Mem.tail _ ?_)) (by simp [go_sem]) rfl), (atVm hE.drew (by repeat (first | exact List.Mem.head _ | refine List.Mem.tail _ ?_)) (by simp [go_sem]) rfl), (atWm hE.drew (by repeat (first | exact List.Mem.head _ | refine List.Mem.tail _ ?_)) Try.isAgg68 Try.sizeOf68 rfl)⟩ (fun hS => ?_)
            refine takeW 0 ⟨some 34, .fieldAddr 70 (.tmp 3) 3, 0, "node.go:72", #[], none⟩ ?_ (.inl ⟨by rfl, ?_⟩) hS ?_
            rotate_left
            · (intro w hSw; (try dsimp only at hSw); go_simp; (try with_reducible rfl))
            try simp only [Act.put, sb, s0, sz]
            refine takeW 1 ⟨some 35, .load 64 (.tmp 34), 64, "node.go:72", #[⟨0, .data⟩], none⟩ ?_ (.inl ⟨by rfl, ?_⟩) hS ?_
            rotate_left
            · (intro w hSw; (try dsimp only at hSw); go_simp; (try with_reducible rfl))
            try simp only [Act.put, sb, s0, sz]
            refine takeW 2 ⟨some 36, .call { callee := .builtin .len, args := #[.tmp 35], argTypes := #[64] }, 3, "node.go:72", #[⟨1, .data⟩], none⟩ ?_ (.inl ⟨by rfl, ?_⟩) hS ?_
            rotate_left
            · (intro w hSw; (try dsimp only at hSw); go_simp; (try with_reducible rfl))
            try simp only [Act.put, sb, s0, sz]
            refine takeW 3 ⟨some 37, .binOp .eql 3 (.tmp 36) (.const (.int .i64 0)) 3, 4, "node.go:72", #[⟨2, .data⟩], none⟩ ?_ (.inl ⟨by rfl, ?_⟩) hS ?_
            rotate_left
            · (intro w hSw; (try dsimp only at hSw); go_simp; (try with_reducible rfl))
            try simp only [Act.put, sb, s0, sz]
            refine takeW 4 ⟨some 38, .move (.tmp 37), 4, "node.go:72", #[⟨3, .data⟩], none⟩ ?_ (.inl ⟨by rfl, ?_⟩) hS ?_
            rotate_left
            · (intro w hSw; (try dsimp only at hSw); go_simp; (try with_reducible rfl))
            try simp only [Act.put, sb, s0, sz]
            refine takeW 5 ⟨some 39, .fieldAddr 70 (.tmp 3) 1, 0, "node.go:72", #[⟨4, .guard⟩], some (4, true)⟩ ?_ (.inl ⟨by rfl, ?_⟩) hS ?_
            rotate_left
            · (intro w hSw; (try dsimp only at hSw); go_simp; (try with_reducible rfl))
            try simp only [Act.put, sb, s0, sz]
            refine takeW 6 ⟨some 40, .load 63 (.tmp 39), 63, "node.go:72", #[⟨5, .data⟩, ⟨4, .guard⟩], some (4, true)⟩ ?_ (.inl ⟨by rfl, ?_⟩) hS ?_
            rotate_left
            · (intro w hSw; (try dsimp only at hSw); go_simp; (try with_reducible rfl))
            try simp only [Act.put, sb, s0, sz]
            refine takeW 7 ⟨some 41, .call { callee := .builtin .len, args := #[.tmp 40], argTypes := #[63] }, 3, "node.go:72", #[⟨6, .data⟩, ⟨4, .guard⟩], some (4, true)⟩ ?_ (.inl ⟨by rfl, ?_⟩) hS ?_
            rotate_left
            · (intro w hSw; (try dsimp only at hSw); go_simp; (try with_reducible rfl))
            try simp only [Act.put, sb, s0, sz]
            refine takeW 8 ⟨some 42, .fieldAddr 70 (.tmp 3) 2, 0, "node.go:72", #[⟨4, .guard⟩], some (4, true)⟩ ?_ (.inl ⟨by rfl, ?_⟩) hS ?_
            rotate_left
            · (intro w hSw; (try dsimp only at hSw); go_simp; (try with_reducible rfl))
            try simp only [Act.put, sb, s0, sz]
            refine takeW 9 ⟨some 43, .load 63 (.tmp 42), 63, "node.go:72", #[⟨8, .data⟩, ⟨4, .guard⟩], some (4, true)⟩ ?_ (.inl ⟨by rfl, ?_⟩) hS ?_
            rotate_left
            · (intro w hSw; (try dsimp only at hSw); go_simp; (try with_reducible rfl))
            try simp only [Act.put, sb, s0, sz]
            refine takeW 10 ⟨some 44, .call { callee := .builtin .len, args := #[.tmp 43], argTypes := #[63] }, 3, "node.go:72", #[⟨9, .data⟩, ⟨4, .guard⟩], some (4, true)⟩ ?_ (.inl ⟨by rfl, ?_⟩) hS ?_
            rotate_left
            · (intro w hSw; (try dsimp only at hSw); go_simp; (try with_reducible rfl))
            try simp only [Act.put, sb, s0, sz]
            refine takeW 11 ⟨some 45, .binOp .eql 3 (.tmp 41) (.tmp 44) 3, 4, "node.go:72", #[⟨7, .data⟩, ⟨10, .data⟩, ⟨4, .guard⟩], some (4, true)⟩ ?_ (.inl ⟨by rfl, ?_⟩) hS ?_
            rotate_left
            · (intro w hSw; (try dsimp only at hSw); go_simp; (try with_reducible rfl))
            try simp only [Act.put, sb, s0, sz]
            refine takeW 12 ⟨some 46, .pick (.tmp 38) (.tmp 45) (.const (.bool false)), 4, "node.go:72", #[⟨4, .data⟩, ⟨11, .data⟩], none⟩ ?_ (.inl ⟨by rfl, ?_⟩) hS ?_
            rotate_left
            · (intro w hSw; (try dsimp only at hSw); go_simp; (try with_reducible rfl))
            try simp only [Act.put, sb, s0, sz]
            refine takeW 13 ⟨some 47, .move (.tmp 46), 4, "node.go:72", #[⟨12, .data⟩, ⟨4, .chain⟩], none⟩ ?_ (.inl ⟨by rfl, ?_⟩) hS ?_
            rotate_left
            · (intro w hSw; (try dsimp only at hSw); go_simp; (try with_reducible rfl))
            try simp only [Act.put, sb, s0, sz]
            refine takeW 14 ⟨some 48, .fieldAddr 70 (.tmp 3) 2, 0, "node.go:72", #[⟨13, .guard⟩], some (13, true)⟩ undef (.inr ⟨by rfl, rfl⟩) hS ?_; try simp only [Act.put, sb, s0, sz]
            refine takeW 15 ⟨some 49, .load 63 (.tmp 48), 63, "node.go:72", #[⟨14, .data⟩, ⟨13, .guard⟩], some (13, true)⟩ undef (.inr ⟨by rfl, rfl⟩) hS ?_; try simp only [Act.put, sb, s0, sz]
            refine takeW 16 ⟨some 50, .fieldAddr 68 (.tmp 2) 1, 0, "node.go:72", #[⟨13, .guard⟩], some (13, true)⟩ undef (.inr ⟨by rfl, rfl⟩) hS ?_; try simp only [Act.put, sb, s0, sz]
            refine takeW 17 ⟨some 51, .load 3 (.tmp 50), 3, "node.go:72", #[⟨16, .data⟩, ⟨13, .guard⟩], some (13, true)⟩ undef (.inr ⟨by rfl, rfl⟩) hS ?_; try simp only [Act.put, sb, s0, sz]
            refine takeW 18 ⟨some 52, .call { callee := .value (.func 104), args := #[.tmp 49, .tmp 51], argTypes := #[63, 3] }, 4, "node.go:72", #[⟨15, .data⟩, ⟨17, .data⟩, ⟨13, .chain⟩, ⟨13, .guard⟩], some (13, true)⟩ undef (.inr ⟨by rfl, rfl⟩) hS ?_; try simp only [Act.put, sb, s0, sz]
            refine takeW 19 ⟨some 53, .pick (.tmp 47) (.tmp 52) (.const (.bool false)), 4, "node.go:72", #[⟨13, .data⟩, ⟨18, .data⟩], none⟩ ?_ (.inl ⟨by rfl, ?_⟩) hS ?_
            rotate_left
            · (intro w hSw; (try dsimp only at hSw); go_simp; (try with_reducible rfl))
            try simp only [Act.put, sb, s0, sz]
            refine takeW 20 ⟨some 54, .move (.tmp 53), 4, "node.go:72", #[⟨19, .data⟩, ⟨18, .chain⟩], none⟩ ?_ (.inl ⟨by rfl, ?_⟩) hS ?_
            rotate_left
            · (intro w hSw; (try dsimp only at hSw); go_simp; (try with_reducible rfl))
            try simp only [Act.put, sb, s0, sz]
            refine takeW 21 ⟨some 55, .fieldAddr 70 (.tmp 3) 1, 0, "node.go:72", #[⟨20, .guard⟩], some (20, true)⟩ undef (.inr ⟨by rfl, rfl⟩) hS ?_; try simp only [Act.put, sb, s0, sz]
            refine takeW 22 ⟨some 56, .load 63 (.tmp 55), 63, "node.go:72", #[⟨21, .data⟩, ⟨20, .guard⟩], some (20, true)⟩ undef (.inr ⟨by rfl, rfl⟩) hS ?_; try simp only [Act.put, sb, s0, sz]
            refine takeW 23 ⟨some 57, .call { callee := .builtin .len, args := #[.tmp 56], argTypes := #[63] }, 3, "node.go:72", #[⟨22, .data⟩, ⟨20, .guard⟩], some (20, true)⟩ undef (.inr ⟨by rfl, rfl⟩) hS ?_; try simp only [Act.put, sb, s0, sz]
            refine takeW 24 ⟨some 58, .load 68 (.tmp 2), 68, "node.go:72", #[⟨20, .guard⟩], some (20, true)⟩ undef (.inr ⟨by rfl, rfl⟩) hS ?_; try simp only [Act.put, sb, s0, sz]
            refine takeW 25 ⟨some 59, .call { callee := .value (.func 29), args := #[.tmp 58], argTypes := #[68] }, 3, "node.go:72", #[⟨24, .data⟩, ⟨20, .chain⟩, ⟨20, .guard⟩], some (20, true)⟩ undef (.inr ⟨by rfl, rfl⟩) hS ?_; try simp only [Act.put, sb, s0, sz]
            refine takeW 26 ⟨some 60, .binOp .leq 3 (.tmp 57) (.tmp 59) 3, 4, "node.go:72", #[⟨23, .data⟩, ⟨25, .data⟩, ⟨20, .guard⟩], some (20, true)⟩ undef (.inr ⟨by rfl, rfl⟩) hS ?_; try simp only [Act.put, sb, s0, sz]
            refine takeW 27 ⟨some 61, .pick (.tmp 54) (.tmp 60) (.const (.bool false)), 4, "node.go:72", #[⟨20, .data⟩, ⟨26, .data⟩], none⟩ ?_ (.inl ⟨by rfl, ?_⟩) hS ?_
            rotate_left
            · (intro w hSw; (try dsimp only at hSw); go_simp; (try with_reducible rfl))
            try simp only [Act.put, sb, s0, sz]
            refine takeW 28 ⟨some 4, .assign (.tmp 61), 4, "node.go:72", #[⟨27, .data⟩, ⟨25, .chain⟩, ⟨0, .phase⟩, ⟨1, .phase⟩, ⟨2, .phase⟩, ⟨3, .phase⟩, ⟨4, .phase⟩, ⟨5, .phase⟩, ⟨6, .phase⟩, ⟨7, .phase⟩, ⟨8, .phase⟩, ⟨9, .phase⟩, ⟨10, .phase⟩, ⟨11, .phase⟩, ⟨12, .phase⟩, ⟨13, .phase⟩, ⟨14, .phase⟩, ⟨15, .phase⟩, ⟨16, .phase⟩, ⟨17, .phase⟩, ⟨18, .phase⟩, ⟨19, .phase⟩, ⟨20, .phase⟩, ⟨21, .phase⟩, ⟨22, .phase⟩, ⟨23, .phase⟩, ⟨24, .phase⟩, ⟨25, .phase⟩, ⟨26, .phase⟩, ⟨27, .phase⟩], none⟩ ?_ (.inl ⟨by rfl, ?_⟩) hS ?_
            rotate_left
            · (intro w hSw; (try dsimp only at hSw); go_simp; (try with_reducible rfl))
            try simp only [Act.put, sb, s0, sz]
            refine wpAnyH_done (by kernel_rfl) ?_ _
            go_wp2
            go_ret
            exact ⟨_, rfl, by rw [Rz.out]; rfl, hE.drew.tail.tail⟩
          | true =>
            cases c2 : wv with
            | false =>
              have Rz := SL.hid (show mb = false by rw [R.out, c0, c1, c2]; rfl)
              go_wp2_with (first
                | go_skip
                | (go_at_call 104; have H := wideT_any (n := kw) (show keys.length ≤ 1000000 by omega) hE (hk.suf (by repeat (first | exact List.suffix_refl _ | refine List.IsSuffix.trans ?_ (List.suffix_cons _ _)))); rw [Hwd.out] at H; refine H.mono ?_; clear H hE; rintro e w2 ⟨v, rfl, rfl, hE⟩)
                | ((with_reducible (show Go.wpList _ _ _ (Go.Oper.mk _ (.load _ _) _ _ _ _ :: _) _ _)); first | (refine wpl_load1 hE 0 rfl rfl rfl rfl (by simp [go_sem]) rfl ?_) | (refine wpl_load1 hE 1 rfl rfl rfl rfl (by simp [go_sem]) rfl ?_) | (refine wpl_load1 hE 2 rfl rfl rfl rfl (by simp [go_sem]) rfl ?_) | (refine wpl_load1 hE 3 rfl rfl rfl rfl (by simp [go_sem]) rfl ?_) | (refine wpl_load1 hE 4 rfl rfl rfl rfl (by simp [go_sem]) rfl ?_) | (refine wpl_load1 hE 5 rfl rfl rfl rfl (by simp [go_sem]) rfl ?_)))
              refine wp_region_held_drew (S := (fun w' => ((Instr.loadAt 63 (.pointer (some ⟨b3, 1, none⟩))).run Try.prog w' = .ok (.slice ka keys.length kc) w') ∧ ((Instr.loadAt 63 (.pointer (some ⟨b3, 2, none⟩))).run Try.prog w' = .ok (.slice va vals.length vc) w') ∧ ((Instr.loadAt 64 (.pointer (some ⟨b3, 3, none⟩))).run Try.prog w' = .ok (.slice ia kids.length ic) w') ∧ ((Instr.loadAt 3 (.pointer (some ⟨b2, 1, none⟩))).run Try.prog w' = .ok (.int .i64 vw) w') ∧ ((Instr.loadAt 68 (.pointer (some ⟨b2, 0, none⟩))).run Try.prog w' = .ok (.agg [.int .i64 kw, .int .i64 vw].toArray) w'))) (by kernel_rfl) ⟨(atVm hE.drew (by repeat (first | exact List.Mem.head _ | refine List.Mem.tail _ ?_)) (by simp [go_sem]) rfl), (atVm hE.drew (by repeat (first | exact List.Mem.head _ | refine List.Mem.tail _ ?_)) (by simp [go_sem]) rfl), (atVm hE.drew (by repeat (first | exact List.Mem.head _ | refine List.Mem.tail _ ?_)) (by simp [go_sem]) rfl), (atVm hE.drew (by repeat (first | exact List.Mem.head _ | refine List.Mem.tail _ ?_)) (by simp [go_sem]) rfl), (atWm hE.drew (by repeat (first | exact List.Mem.head _ | refine List.Mem.tail _ ?_)) Try.isAgg68 Try.sizeOf68 rfl)⟩ (fun hS => ?_)
              refine takeW 0 ⟨some 34, .fieldAddr 70 (.tmp 3) 3, 0, "node.go:72", #[], none⟩ ?_ (.inl ⟨by rfl, ?_⟩) hS ?_
              rotate_left
              · (intro w hSw; (try dsimp only at hSw); go_simp; (try with_reducible rfl))
              try simp only [Act.put, sb, s0, sz]
              refine takeW 1 ⟨some 35, .load 64 (.tmp 34), 64, "node.go:72", #[⟨0, .data⟩], none⟩ ?_ (.inl ⟨by rfl, ?_⟩) hS ?_
              rotate_left
              · (intro w hSw; (try dsimp only at hSw); go_simp; (try with_reducible rfl))
              try simp only [Act.put, sb, s0, sz]
              refine takeW 2 ⟨some 36, .call { callee := .builtin .len, args := #[.tmp 35], argTypes := #[64] }, 3, "node.go:72", #[⟨1, .data⟩], none⟩ ?_ (.inl ⟨by rfl, ?_⟩) hS ?_
              rotate_left
              · (intro w hSw; (try dsimp only at hSw); go_simp; (try with_reducible rfl))
              try simp only [Act.put, sb, s0, sz]
              refine takeW 3 ⟨some 37, .binOp .eql 3 (.tmp 36) (.const (.int .i64 0)) 3, 4, "node.go:72", #[⟨2, .data⟩], none⟩ ?_ (.inl ⟨by rfl, ?_⟩) hS ?_
              rotate_left
              · (intro w hSw; (try dsimp only at hSw); go_simp; (try with_reducible rfl))
              try simp only [Act.put, sb, s0, sz]
              refine takeW 4 ⟨some 38, .move (.tmp 37), 4, "node.go:72", #[⟨3, .data⟩], none⟩ ?_ (.inl ⟨by rfl, ?_⟩) hS ?_
              rotate_left
              · (intro w hSw; (try dsimp only at hSw); go_simp; (try with_reducible rfl))
              try simp only [Act.put, sb, s0, sz]
              refine takeW 5 ⟨some 39, .fieldAddr 70 (.tmp 3) 1, 0, "node.go:72", #[⟨4, .guard⟩], some (4, true)⟩ ?_ (.inl ⟨by rfl, ?_⟩) hS ?_
              rotate_left
              · (intro w hSw; (try dsimp only at hSw); go_simp; (try with_reducible rfl))
              try simp only [Act.put, sb, s0, sz]
              refine takeW 6 ⟨some 40, .load 63 (.tmp 39), 63, "node.go:72", #[⟨5, .data⟩, ⟨4, .guard⟩], some (4, true)⟩ ?_ (.inl ⟨by rfl, ?_⟩) hS ?_
              rotate_left
              · (intro w hSw; (try dsimp only at hSw); go_simp; (try with_reducible rfl))
              try simp only [Act.put, sb, s0, sz]
              refine takeW 7 ⟨some 41, .call { callee := .builtin .len, args := #[.tmp 40], argTypes := #[63] }, 3, "node.go:72", #[⟨6, .data⟩, ⟨4, .guard⟩], some (4, true)⟩ ?_ (.inl ⟨by rfl, ?_⟩) hS ?_
              rotate_left
              · (intro w hSw; (try dsimp only at hSw); go_simp; (try with_reducible rfl))
              try simp only [Act.put, sb, s0, sz]
              refine takeW 8 ⟨some 42, .fieldAddr 70 (.tmp 3) 2, 0, "node.go:72", #[⟨4, .guard⟩], some (4, true)⟩ ?_ (.inl ⟨by rfl, ?_⟩) hS ?_
              rotate_left
              · (intro w hSw; (try dsimp only at hSw); go_simp; (try with_reducible rfl))
              try simp only [Act.put, sb, s0, sz]
              refine takeW 9 ⟨some 43, .load 63 (.tmp 42), 63, "node.go:72", #[⟨8, .data⟩, ⟨4, .guard⟩], some (4, true)⟩ ?_ (.inl ⟨by rfl, ?_⟩) hS ?_
              rotate_left
              · (intro w hSw; (try dsimp only at hSw); go_simp; (try with_reducible rfl))
              try simp only [Act.put, sb, s0, sz]
              refine takeW 10 ⟨some 44, .call { callee := .builtin .len, args := #[.tmp 43], argTypes := #[63] }, 3, "node.go:72", #[⟨9, .data⟩, ⟨4, .guard⟩], some (4, true)⟩ ?_ (.inl ⟨by rfl, ?_⟩) hS ?_
              rotate_left
              · (intro w hSw; (try dsimp only at hSw); go_simp; (try with_reducible rfl))
              try simp only [Act.put, sb, s0, sz]
              refine takeW 11 ⟨some 45, .binOp .eql 3 (.tmp 41) (.tmp 44) 3, 4, "node.go:72", #[⟨7, .data⟩, ⟨10, .data⟩, ⟨4, .guard⟩], some (4, true)⟩ ?_ (.inl ⟨by rfl, ?_⟩) hS ?_
              rotate_left
              · (intro w hSw; (try dsimp only at hSw); go_simp; (try with_reducible rfl))
              try simp only [Act.put, sb, s0, sz]
              refine takeW 12 ⟨some 46, .pick (.tmp 38) (.tmp 45) (.const (.bool false)), 4, "node.go:72", #[⟨4, .data⟩, ⟨11, .data⟩], none⟩ ?_ (.inl ⟨by rfl, ?_⟩) hS ?_
              rotate_left
              · (intro w hSw; (try dsimp only at hSw); go_simp; (try with_reducible rfl))
              try simp only [Act.put, sb, s0, sz]
              refine takeW 13 ⟨some 47, .move (.tmp 46), 4, "node.go:72", #[⟨12, .data⟩, ⟨4, .chain⟩], none⟩ ?_ (.inl ⟨by rfl, ?_⟩) hS ?_
              rotate_left
              · (intro w hSw; (try dsimp only at hSw); go_simp; (try with_reducible rfl))
              try simp only [Act.put, sb, s0, sz]
              refine takeW 14 ⟨some 48, .fieldAddr 70 (.tmp 3) 2, 0, "node.go:72", #[⟨13, .guard⟩], some (13, true)⟩ ?_ (.inl ⟨by rfl, ?_⟩) hS ?_
              rotate_left
              · (intro w hSw; (try dsimp only at hSw); go_simp; (try with_reducible rfl))
              try simp only [Act.put, sb, s0, sz]
              refine takeW 15 ⟨some 49, .load 63 (.tmp 48), 63, "node.go:72", #[⟨14, .data⟩, ⟨13, .guard⟩], some (13, true)⟩ ?_ (.inl ⟨by rfl, ?_⟩) hS ?_
              rotate_left
              · (intro w hSw; (try dsimp only at hSw); go_simp; (try with_reducible rfl))
              try simp only [Act.put, sb, s0, sz]
              refine takeW 16 ⟨some 50, .fieldAddr 68 (.tmp 2) 1, 0, "node.go:72", #[⟨13, .guard⟩], some (13, true)⟩ ?_ (.inl ⟨by rfl, ?_⟩) hS ?_
              rotate_left
              · (intro w hSw; (try dsimp only at hSw); go_simp; (try with_reducible rfl))
              try simp only [Act.put, sb, s0, sz]
              refine takeW 17 ⟨some 51, .load 3 (.tmp 50), 3, "node.go:72", #[⟨16, .data⟩, ⟨13, .guard⟩], some (13, true)⟩ ?_ (.inl ⟨by rfl, ?_⟩) hS ?_
              rotate_left
              · (intro w hSw; (try dsimp only at hSw); go_simp; (try with_reducible rfl))
              try simp only [Act.put, sb, s0, sz]
              refine wpAnyH_ready (rs := [18]) (by kernel_rfl) (by simp) ?_
              refine (AllReadyH.cons (o := { dst := some 52, op := Go.Op.call { callee := Go.Callee.value (Go.Operand.func 104), args := #[Go.Operand.tmp 49, Go.Operand.tmp 51], argTypes := #[63, 3] }, type := 4, pos := "node.go:72", after := #[{ on := 15, ground := Go.Ground.data }, { on := 17, ground := Go.Ground.data }, { on := 13, ground := Go.Ground.chain }, { on := 13, ground := Go.Ground.guard }], guard := some (13, true) }) rfl (fun K hK => ?_) AllReadyH.nil)
              (go_simp; refine (hW hE.drew (hv.suf (by repeat (first | exact List.suffix_refl _ | refine List.IsSuffix.trans ?_ (List.suffix_cons _ _))))).mono ?_; clear hW; rintro e w3 ⟨v, rfl, rfl, hE3⟩)
              refine hK.out _ _ ⟨(atVm hE3 (by repeat (first | exact List.Mem.head _ | refine List.Mem.tail _ ?_)) (by simp [go_sem]) rfl), (atVm hE3 (by repeat (first | exact List.Mem.head _ | refine List.Mem.tail _ ?_)) (by simp [go_sem]) rfl), (atVm hE3 (by repeat (first | exact List.Mem.head _ | refine List.Mem.tail _ ?_)) (by simp [go_sem]) rfl), (atVm hE3 (by repeat (first | exact List.Mem.head _ | refine List.Mem.tail _ ?_)) (by simp [go_sem]) rfl), (atWm hE3 (by repeat (first | exact List.Mem.head _ | refine List.Mem.tail _ ?_)) Try.isAgg68 Try.sizeOf68 rfl)⟩ (fun hS => ?_)
              clear hK K
              try simp only [Act.put, sb, s0, sz]
              refine takeW 19 ⟨some 53, .pick (.tmp 47) (.tmp 52) (.const (.bool false)), 4, "node.go:72", #[⟨13, .data⟩, ⟨18, .data⟩], none⟩ ?_ (.inl ⟨by rfl, ?_⟩) hS ?_
              rotate_left
              · (intro w hSw; (try dsimp only at hSw); go_simp; (try with_reducible rfl))
              try simp only [Act.put, sb, s0, sz]
              refine takeW 20 ⟨some 54, .move (.tmp 53), 4, "node.go:72", #[⟨19, .data⟩, ⟨18, .chain⟩], none⟩ ?_ (.inl ⟨by rfl, ?_⟩) hS ?_
              rotate_left
              · (intro w hSw; (try dsimp only at hSw); go_simp; (try with_reducible rfl))
              try simp only [Act.put, sb, s0, sz]
              refine takeW 21 ⟨some 55, .fieldAddr 70 (.tmp 3) 1, 0, "node.go:72", #[⟨20, .guard⟩], some (20, true)⟩ undef (.inr ⟨by rfl, rfl⟩) hS ?_; try simp only [Act.put, sb, s0, sz]
              refine takeW 22 ⟨some 56, .load 63 (.tmp 55), 63, "node.go:72", #[⟨21, .data⟩, ⟨20, .guard⟩], some (20, true)⟩ undef (.inr ⟨by rfl, rfl⟩) hS ?_; try simp only [Act.put, sb, s0, sz]
              refine takeW 23 ⟨some 57, .call { callee := .builtin .len, args := #[.tmp 56], argTypes := #[63] }, 3, "node.go:72", #[⟨22, .data⟩, ⟨20, .guard⟩], some (20, true)⟩ undef (.inr ⟨by rfl, rfl⟩) hS ?_; try simp only [Act.put, sb, s0, sz]
              refine takeW 24 ⟨some 58, .load 68 (.tmp 2), 68, "node.go:72", #[⟨20, .guard⟩], some (20, true)⟩ undef (.inr ⟨by rfl, rfl⟩) hS ?_; try simp only [Act.put, sb, s0, sz]
              refine takeW 25 ⟨some 59, .call { callee := .value (.func 29), args := #[.tmp 58], argTypes := #[68] }, 3, "node.go:72", #[⟨24, .data⟩, ⟨20, .chain⟩, ⟨20, .guard⟩], some (20, true)⟩ undef (.inr ⟨by rfl, rfl⟩) hS ?_; try simp only [Act.put, sb, s0, sz]
              refine takeW 26 ⟨some 60, .binOp .leq 3 (.tmp 57) (.tmp 59) 3, 4, "node.go:72", #[⟨23, .data⟩, ⟨25, .data⟩, ⟨20, .guard⟩], some (20, true)⟩ undef (.inr ⟨by rfl, rfl⟩) hS ?_; try simp only [Act.put, sb, s0, sz]
              refine takeW 27 ⟨some 61, .pick (.tmp 54) (.tmp 60) (.const (.bool false)), 4, "node.go:72", #[⟨20, .data⟩, ⟨26, .data⟩], none⟩ ?_ (.inl ⟨by rfl, ?_⟩) hS ?_
              rotate_left
              · (intro w hSw; (try dsimp only at hSw); go_simp; (try with_reducible rfl))
              try simp only [Act.put, sb, s0, sz]
              refine takeW 28 ⟨some 4, .assign (.tmp 61), 4, "node.go:72", #[⟨27, .data⟩, ⟨25, .chain⟩, ⟨0, .phase⟩, ⟨1, .phase⟩, ⟨2, .phase⟩, ⟨3, .phase⟩, ⟨4, .phase⟩, ⟨5, .phase⟩, ⟨6, .phase⟩, ⟨7, .phase⟩, ⟨8, .phase⟩, ⟨9, .phase⟩, ⟨10, .phase⟩, ⟨11, .phase⟩, ⟨12, .phase⟩, ⟨13, .phase⟩, ⟨14, .phase⟩, ⟨15, .phase⟩, ⟨16, .phase⟩, ⟨17, .phase⟩, ⟨18, .phase⟩, ⟨19, .phase⟩, ⟨20, .phase⟩, ⟨21, .phase⟩, ⟨22, .phase⟩, ⟨23, .phase⟩, ⟨24, .phase⟩, ⟨25, .phase⟩, ⟨26, .phase⟩, ⟨27, .phase⟩], none⟩ ?_ (.inl ⟨by rfl, ?_⟩) hS ?_
              rotate_left
              · (intro w hSw; (try dsimp only at hSw); go_simp; (try with_reducible rfl))
              try simp only [Act.put, sb, s0, sz]
              refine wpAnyH_done (by kernel_rfl) ?_ _
              go_wp2
              go_ret
              exact ⟨_, rfl, by rw [Rz.out]; rfl, hE3.tail.tail⟩
            | true =>
              have Rz := SL.hid (show mb = decide ((keys.length : Int) ≤ cap) by rw [R.out, c0, c1, c2]; rfl)
              go_wp2_with (first
                | go_skip
                | (go_at_call 104; have H := wideT_any (n := kw) (show keys.length ≤ 1000000 by omega) hE (hk.suf (by repeat (first | exact List.suffix_refl _ | refine List.IsSuffix.trans ?_ (List.suffix_cons _ _)))); rw [Hwd.out] at H; refine H.mono ?_; clear H hE; rintro e w2 ⟨v, rfl, rfl, hE⟩)
                | ((with_reducible (show Go.wpList _ _ _ (Go.Oper.mk _ (.load _ _) _ _ _ _ :: _) _ _)); first | (refine wpl_load1 hE 0 rfl rfl rfl rfl (by simp [go_sem]) rfl ?_) | (refine wpl_load1 hE 1 rfl rfl rfl rfl (by simp [go_sem]) rfl ?_) | (refine wpl_load1 hE 2 rfl rfl rfl rfl (by simp [go_sem]) rfl ?_) | (refine wpl_load1 hE 3 rfl rfl rfl rfl (by simp [go_sem]) rfl ?_) | (refine wpl_load1 hE 4 rfl rfl rfl rfl (by simp [go_sem]) rfl ?_) | (refine wpl_load1 hE 5 rfl rfl rfl rfl (by simp [go_sem]) rfl ?_)))
              refine wp_region_held_drew (S := (fun w' => ((Instr.loadAt 63 (.pointer (some ⟨b3, 1, none⟩))).run Try.prog w' = .ok (.slice ka keys.length kc) w') ∧ ((Instr.loadAt 63 (.pointer (some ⟨b3, 2, none⟩))).run Try.prog w' = .ok (.slice va vals.length vc) w') ∧ ((Instr.loadAt 64 (.pointer (some ⟨b3, 3, none⟩))).run Try.prog w' = .ok (.slice ia kids.length ic) w') ∧ ((Instr.loadAt 3 (.pointer (some ⟨b2, 1, none⟩))).run Try.prog w' = .ok (.int .i64 vw) w') ∧ ((Instr.loadAt 68 (.pointer (some ⟨b2, 0, none⟩))).run Try.prog w' = .ok (.agg [.int .i64 kw, .int .i64 vw].toArray) w'))) (by kernel_rfl) ⟨(atVm hE.drew (by repeat (first | exact List.Mem.head _ | refine List.Mem.tail _ ?_)) (by simp [go_sem]) rfl), (atVm hE.drew (by repeat (first | exact List.Mem.head _ | refine List.Mem.tail _ ?_)) (by simp [go_sem]) rfl), (atVm hE.drew (by repeat (first | exact List.Mem.head _ | refine List.Mem.tail _ ?_)) (by simp [go_sem]) rfl), (atVm hE.drew (by repeat (first | exact List.Mem.head _ | refine List.Mem.tail _ ?_)) (by simp [go_sem]) rfl), (atWm hE.drew (by repeat (first | exact List.Mem.head _ | refine List.Mem.tail _ ?_)) Try.isAgg68 Try.sizeOf68 rfl)⟩ (fun hS => ?_)
              refine takeW 0 ⟨some 34, .fieldAddr 70 (.tmp 3) 3, 0, "node.go:72", #[], none⟩ ?_ (.inl ⟨by rfl, ?_⟩) hS ?_
              rotate_left
              · (intro w hSw; (try dsimp only at hSw); go_simp; (try with_reducible rfl))
              try simp only [Act.put, sb, s0, sz]
              refine takeW 1 ⟨some 35, .load 64 (.tmp 34), 64, "node.go:72", #[⟨0, .data⟩], none⟩ ?_ (.inl ⟨by rfl, ?_⟩) hS ?_
              rotate_left
              · (intro w hSw; (try dsimp only at hSw); go_simp; (try with_reducible rfl))
              try simp only [Act.put, sb, s0, sz]
              refine takeW 2 ⟨some 36, .call { callee := .builtin .len, args := #[.tmp 35], argTypes := #[64] }, 3, "node.go:72", #[⟨1, .data⟩], none⟩ ?_ (.inl ⟨by rfl, ?_⟩) hS ?_
              rotate_left
              · (intro w hSw; (try dsimp only at hSw); go_simp; (try with_reducible rfl))
              try simp only [Act.put, sb, s0, sz]
              refine takeW 3 ⟨some 37, .binOp .eql 3 (.tmp 36) (.const (.int .i64 0)) 3, 4, "node.go:72", #[⟨2, .data⟩], none⟩ ?_ (.inl ⟨by rfl, ?_⟩) hS ?_
              rotate_left
              · (intro w hSw; (try dsimp only at hSw); go_simp; (try with_reducible rfl))
              try simp only [Act.put, sb, s0, sz]
              refine takeW 4 ⟨some 38, .move (.tmp 37), 4, "node.go:72", #[⟨3, .data⟩], none⟩ ?_ (.inl ⟨by rfl, ?_⟩) hS ?_
              rotate_left
              · (intro w hSw; (try dsimp only at hSw); go_simp; (try with_reducible rfl))
              try simp only [Act.put, sb, s0, sz]
              refine takeW 5 ⟨some 39, .fieldAddr 70 (.tmp 3) 1, 0, "node.go:72", #[⟨4, .guard⟩], some (4, true)⟩ ?_ (.inl ⟨by rfl, ?_⟩) hS ?_
              rotate_left
              · (intro w hSw; (try dsimp only at hSw); go_simp; (try with_reducible rfl))
              try simp only [Act.put, sb, s0, sz]
              refine takeW 6 ⟨some 40, .load 63 (.tmp 39), 63, "node.go:72", #[⟨5, .data⟩, ⟨4, .guard⟩], some (4, true)⟩ ?_ (.inl ⟨by rfl, ?_⟩) hS ?_
              rotate_left
              · (intro w hSw; (try dsimp only at hSw); go_simp; (try with_reducible rfl))
              try simp only [Act.put, sb, s0, sz]
              refine takeW 7 ⟨some 41, .call { callee := .builtin .len, args := #[.tmp 40], argTypes := #[63] }, 3, "node.go:72", #[⟨6, .data⟩, ⟨4, .guard⟩], some (4, true)⟩ ?_ (.inl ⟨by rfl, ?_⟩) hS ?_
              rotate_left
              · (intro w hSw; (try dsimp only at hSw); go_simp; (try with_reducible rfl))
              try simp only [Act.put, sb, s0, sz]
              refine takeW 8 ⟨some 42, .fieldAddr 70 (.tmp 3) 2, 0, "node.go:72", #[⟨4, .guard⟩], some (4, true)⟩ ?_ (.inl ⟨by rfl, ?_⟩) hS ?_
              rotate_left
              · (intro w hSw; (try dsimp only at hSw); go_simp; (try with_reducible rfl))
              try simp only [Act.put, sb, s0, sz]
              refine takeW 9 ⟨some 43, .load 63 (.tmp 42), 63, "node.go:72", #[⟨8, .data⟩, ⟨4, .guard⟩], some (4, true)⟩ ?_ (.inl ⟨by rfl, ?_⟩) hS ?_
              rotate_left
              · (intro w hSw; (try dsimp only at hSw); go_simp; (try with_reducible rfl))
              try simp only [Act.put, sb, s0, sz]
              refine takeW 10 ⟨some 44, .call { callee := .builtin .len, args := #[.tmp 43], argTypes := #[63] }, 3, "node.go:72", #[⟨9, .data⟩, ⟨4, .guard⟩], some (4, true)⟩ ?_ (.inl ⟨by rfl, ?_⟩) hS ?_
              rotate_left
              · (intro w hSw; (try dsimp only at hSw); go_simp; (try with_reducible rfl))
              try simp only [Act.put, sb, s0, sz]
              refine takeW 11 ⟨some 45, .binOp .eql 3 (.tmp 41) (.tmp 44) 3, 4, "node.go:72", #[⟨7, .data⟩, ⟨10, .data⟩, ⟨4, .guard⟩], some (4, true)⟩ ?_ (.inl ⟨by rfl, ?_⟩) hS ?_
              rotate_left
              · (intro w hSw; (try dsimp only at hSw); go_simp; (try with_reducible rfl))
              try simp only [Act.put, sb, s0, sz]
              refine takeW 12 ⟨some 46, .pick (.tmp 38) (.tmp 45) (.const (.bool false)), 4, "node.go:72", #[⟨4, .data⟩, ⟨11, .data⟩], none⟩ ?_ (.inl ⟨by rfl, ?_⟩) hS ?_
              rotate_left
              · (intro w hSw; (try dsimp only at hSw); go_simp; (try with_reducible rfl))
              try simp only [Act.put, sb, s0, sz]
              refine takeW 13 ⟨some 47, .move (.tmp 46), 4, "node.go:72", #[⟨12, .data⟩, ⟨4, .chain⟩], none⟩ ?_ (.inl ⟨by rfl, ?_⟩) hS ?_
              rotate_left
              · (intro w hSw; (try dsimp only at hSw); go_simp; (try with_reducible rfl))
              try simp only [Act.put, sb, s0, sz]
              refine takeW 14 ⟨some 48, .fieldAddr 70 (.tmp 3) 2, 0, "node.go:72", #[⟨13, .guard⟩], some (13, true)⟩ ?_ (.inl ⟨by rfl, ?_⟩) hS ?_
              rotate_left
              · (intro w hSw; (try dsimp only at hSw); go_simp; (try with_reducible rfl))
              try simp only [Act.put, sb, s0, sz]
              refine takeW 15 ⟨some 49, .load 63 (.tmp 48), 63, "node.go:72", #[⟨14, .data⟩, ⟨13, .guard⟩], some (13, true)⟩ ?_ (.inl ⟨by rfl, ?_⟩) hS ?_
              rotate_left
              · (intro w hSw; (try dsimp only at hSw); go_simp; (try with_reducible rfl))
              try simp only [Act.put, sb, s0, sz]
              refine takeW 16 ⟨some 50, .fieldAddr 68 (.tmp 2) 1, 0, "node.go:72", #[⟨13, .guard⟩], some (13, true)⟩ ?_ (.inl ⟨by rfl, ?_⟩) hS ?_
              rotate_left
              · (intro w hSw; (try dsimp only at hSw); go_simp; (try with_reducible rfl))
              try simp only [Act.put, sb, s0, sz]
              refine takeW 17 ⟨some 51, .load 3 (.tmp 50), 3, "node.go:72", #[⟨16, .data⟩, ⟨13, .guard⟩], some (13, true)⟩ ?_ (.inl ⟨by rfl, ?_⟩) hS ?_
              rotate_left
              · (intro w hSw; (try dsimp only at hSw); go_simp; (try with_reducible rfl))
              try simp only [Act.put, sb, s0, sz]
              refine wpAnyH_ready (rs := [18]) (by kernel_rfl) (by simp) ?_
              refine (AllReadyH.cons (o := { dst := some 52, op := Go.Op.call { callee := Go.Callee.value (Go.Operand.func 104), args := #[Go.Operand.tmp 49, Go.Operand.tmp 51], argTypes := #[63, 3] }, type := 4, pos := "node.go:72", after := #[{ on := 15, ground := Go.Ground.data }, { on := 17, ground := Go.Ground.data }, { on := 13, ground := Go.Ground.chain }, { on := 13, ground := Go.Ground.guard }], guard := some (13, true) }) rfl (fun K hK => ?_) AllReadyH.nil)
              (go_simp; refine (hW hE.drew (hv.suf (by repeat (first | exact List.suffix_refl _ | refine List.IsSuffix.trans ?_ (List.suffix_cons _ _))))).mono ?_; clear hW; rintro e w3 ⟨v, rfl, rfl, hE3⟩)
              refine hK.out _ _ ⟨(atVm hE3 (by repeat (first | exact List.Mem.head _ | refine List.Mem.tail _ ?_)) (by simp [go_sem]) rfl), (atVm hE3 (by repeat (first | exact List.Mem.head _ | refine List.Mem.tail _ ?_)) (by simp [go_sem]) rfl), (atVm hE3 (by repeat (first | exact List.Mem.head _ | refine List.Mem.tail _ ?_)) (by simp [go_sem]) rfl), (atVm hE3 (by repeat (first | exact List.Mem.head _ | refine List.Mem.tail _ ?_)) (by simp [go_sem]) rfl), (atWm hE3 (by repeat (first | exact List.Mem.head _ | refine List.Mem.tail _ ?_)) Try.isAgg68 Try.sizeOf68 rfl)⟩ (fun hS => ?_)
              clear hK K
              try simp only [Act.put, sb, s0, sz]
              refine takeW 19 ⟨some 53, .pick (.tmp 47) (.tmp 52) (.const (.bool false)), 4, "node.go:72", #[⟨13, .data⟩, ⟨18, .data⟩], none⟩ ?_ (.inl ⟨by rfl, ?_⟩) hS ?_
              rotate_left
              · (intro w hSw; (try dsimp only at hSw); go_simp; (try with_reducible rfl))
              try simp only [Act.put, sb, s0, sz]
              refine takeW 20 ⟨some 54, .move (.tmp 53), 4, "node.go:72", #[⟨19, .data⟩, ⟨18, .chain⟩], none⟩ ?_ (.inl ⟨by rfl, ?_⟩) hS ?_
              rotate_left
              · (intro w hSw; (try dsimp only at hSw); go_simp; (try with_reducible rfl))
              try simp only [Act.put, sb, s0, sz]
              refine takeW 21 ⟨some 55, .fieldAddr 70 (.tmp 3) 1, 0, "node.go:72", #[⟨20, .guard⟩], some (20, true)⟩ ?_ (.inl ⟨by rfl, ?_⟩) hS ?_
              rotate_left
              · (intro w hSw; (try dsimp only at hSw); go_simp; (try with_reducible rfl))
              try simp only [Act.put, sb, s0, sz]
              refine takeW 22 ⟨some 56, .load 63 (.tmp 55), 63, "node.go:72", #[⟨21, .data⟩, ⟨20, .guard⟩], some (20, true)⟩ ?_ (.inl ⟨by rfl, ?_⟩) hS ?_
              rotate_left
              · (intro w hSw; (try dsimp only at hSw); go_simp; (try with_reducible rfl))
              try simp only [Act.put, sb, s0, sz]
              refine takeW 23 ⟨some 57, .call { callee := .builtin .len, args := #[.tmp 56], argTypes := #[63] }, 3, "node.go:72", #[⟨22, .data⟩, ⟨20, .guard⟩], some (20, true)⟩ ?_ (.inl ⟨by rfl, ?_⟩) hS ?_
              rotate_left
              · (intro w hSw; (try dsimp only at hSw); go_simp; (try with_reducible rfl))
              try simp only [Act.put, sb, s0, sz]
              refine takeW 24 ⟨some 58, .load 68 (.tmp 2), 68, "node.go:72", #[⟨20, .guard⟩], some (20, true)⟩ ?_ (.inl ⟨by rfl, ?_⟩) hS ?_
              rotate_left
              · (intro w hSw; (try dsimp only at hSw); go_simp; (try with_reducible rfl))
              try simp only [Act.put, sb, s0, sz]
              refine wpAnyH_ready (rs := [25]) (by kernel_rfl) (by simp) ?_
              refine (AllReadyH.cons (o := { dst := some 59, op := Go.Op.call { callee := Go.Callee.value (Go.Operand.func 29), args := #[Go.Operand.tmp 58], argTypes := #[68] }, type := 3, pos := "node.go:72", after := #[{ on := 24, ground := Go.Ground.data }, { on := 20, ground := Go.Ground.chain }, { on := 20, ground := Go.Ground.guard }], guard := some (20, true) }) rfl (fun K hK => ?_) AllReadyH.nil)
              (go_simp; refine (hC hE3).mono ?_; clear hC; rintro e w4 ⟨v, rfl, rfl, hE4⟩)
              refine hK.out _ _ ⟨(atVm hE4 (by repeat (first | exact List.Mem.head _ | refine List.Mem.tail _ ?_)) (by simp [go_sem]) rfl), (atVm hE4 (by repeat (first | exact List.Mem.head _ | refine List.Mem.tail _ ?_)) (by simp [go_sem]) rfl), (atVm hE4 (by repeat (first | exact List.Mem.head _ | refine List.Mem.tail _ ?_)) (by simp [go_sem]) rfl), (atVm hE4 (by repeat (first | exact List.Mem.head _ | refine List.Mem.tail _ ?_)) (by simp [go_sem]) rfl), (atWm hE4 (by repeat (first | exact List.Mem.head _ | refine List.Mem.tail _ ?_)) Try.isAgg68 Try.sizeOf68 rfl)⟩ (fun hS => ?_)
              clear hK K
              try simp only [Act.put, sb, s0, sz]
              refine takeW 26 ⟨some 60, .binOp .leq 3 (.tmp 57) (.tmp 59) 3, 4, "node.go:72", #[⟨23, .data⟩, ⟨25, .data⟩, ⟨20, .guard⟩], some (20, true)⟩ ?_ (.inl ⟨by rfl, ?_⟩) hS ?_
              rotate_left
              · (intro w hSw; (try dsimp only at hSw); go_simp; (try with_reducible rfl))
              try simp only [Act.put, sb, s0, sz]
              refine takeW 27 ⟨some 61, .pick (.tmp 54) (.tmp 60) (.const (.bool false)), 4, "node.go:72", #[⟨20, .data⟩, ⟨26, .data⟩], none⟩ ?_ (.inl ⟨by rfl, ?_⟩) hS ?_
              rotate_left
              · (intro w hSw; (try dsimp only at hSw); go_simp; (try with_reducible rfl))
              try simp only [Act.put, sb, s0, sz]
              refine takeW 28 ⟨some 4, .assign (.tmp 61), 4, "node.go:72", #[⟨27, .data⟩, ⟨25, .chain⟩, ⟨0, .phase⟩, ⟨1, .phase⟩, ⟨2, .phase⟩, ⟨3, .phase⟩, ⟨4, .phase⟩, ⟨5, .phase⟩, ⟨6, .phase⟩, ⟨7, .phase⟩, ⟨8, .phase⟩, ⟨9, .phase⟩, ⟨10, .phase⟩, ⟨11, .phase⟩, ⟨12, .phase⟩, ⟨13, .phase⟩, ⟨14, .phase⟩, ⟨15, .phase⟩, ⟨16, .phase⟩, ⟨17, .phase⟩, ⟨18, .phase⟩, ⟨19, .phase⟩, ⟨20, .phase⟩, ⟨21, .phase⟩, ⟨22, .phase⟩, ⟨23, .phase⟩, ⟨24, .phase⟩, ⟨25, .phase⟩, ⟨26, .phase⟩, ⟨27, .phase⟩], none⟩ ?_ (.inl ⟨by rfl, ?_⟩) hS ?_
              rotate_left
              · (intro w hSw; (try dsimp only at hSw); go_simp; (try with_reducible rfl))
              try simp only [Act.put, sb, s0, sz]
              refine wpAnyH_done (by kernel_rfl) ?_ _
              go_wp2
              go_ret
              exact ⟨_, rfl, by rw [Rz.out]; rfl, hE4.tail.tail⟩
end Go.Proofs.Ytohdljcpaogokaa
