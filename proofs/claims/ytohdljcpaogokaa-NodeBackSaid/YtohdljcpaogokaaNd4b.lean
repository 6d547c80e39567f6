/-
  May a node be? Inner nodes. Printed by gen_nd4.py.
-/
import Derived.Test.YtohdljcpaogokaaNd4
namespace Go.Proofs.Ytohdljcpaogokaa
open Go.RowKit Go.SL

set_option maxRecDepth 100000 in
set_option maxHeartbeats 4000000 in
attribute [-go_sem] Instr.loadAt in
theorem may_false {kw vw : Int} {keys vals : List (List UInt8)} {kids : List Int} {ka va ia : Option Addr} {kc vc ic : Nat} (bk : keys.length ≤ 100000) (bv : vals.length ≤ 100000) (bi : kids.length ≤ 100000) {l : List HProp} {w : World} (hE : Ent l w) (hk : Knows l (reads (.slice ka keys.length kc) keys.length (keys.map strv))) (hv : Knows l (reads (.slice va vals.length vc) vals.length (vals.map strv))) (hi : Knows l (reads (.slice ia kids.length ic) kids.length (kids.map intv))) :
    Calls Try.prog 70 #[.agg #[.int .i64 kw, .int .i64 vw], .agg #[.bool false, .slice ka keys.length kc, .slice va vals.length vc, .slice ia kids.length ic]] w (Ret fun v w' => v = .bool (mayB kw vw ⟨false, keys, vals, kids⟩) ∧ Ent l w') := by
  have M1 := SL.hid (mayB_rises (kw := kw) (vw := vw) (n := ⟨false, keys, vals, kids⟩))
  have M2 := SL.hid (mayB_wide (kw := kw) (vw := vw) (n := ⟨false, keys, vals, kids⟩))
  have M3 := SL.hid (mayB_rest (kw := kw) (vw := vw) (n := ⟨false, keys, vals, kids⟩))
  generalize hmb : mayB kw vw ⟨false, keys, vals, kids⟩ = mb at *
  clear hmb
  go_enter Try.func70, Try.ntmps70
  go_wp2_with (first
    | go_skip
    | ((with_reducible (show Go.wpList _ _ _ (Go.Oper.mk _ (.box _ (.tmp 0)) _ _ _ _ :: _) _ _)); refine wpl_box hE rfl rfl rfl ?_; clear hE; intro b2 w hE; simp only [Act.eval, Act.put, List.setIfInBounds_toArray, List.set_cons_zero, List.set_cons_succ, getD_lit, List.getD_cons_succ, List.getD_cons_zero, Value.cells] at hE)
    | ((with_reducible (show Go.wpList _ _ _ (Go.Oper.mk _ (.box _ (.tmp 1)) _ _ _ _ :: _) _ _)); refine wpl_box hE rfl rfl rfl ?_; clear hE; intro b3 w hE; simp only [Act.eval, Act.put, List.setIfInBounds_toArray, List.set_cons_zero, List.set_cons_succ, getD_lit, List.getD_cons_succ, List.getD_cons_zero, Value.cells] at hE)
    | ((with_reducible (show Go.wpList _ _ _ (Go.Oper.mk _ (.load _ _) _ _ _ _ :: _) _ _)); first | (refine wpl_load1 hE 0 rfl rfl rfl rfl (by simp [go_sem]) rfl ?_) | (refine wpl_load1 hE 1 rfl rfl rfl rfl (by simp [go_sem]) rfl ?_) | (refine wpl_load1 hE 2 rfl rfl rfl rfl (by simp [go_sem]) rfl ?_) | (refine wpl_load1 hE 3 rfl rfl rfl rfl (by simp [go_sem]) rfl ?_) | (refine wpl_load1 hE 4 rfl rfl rfl rfl (by simp [go_sem]) rfl ?_) | (refine wpl_load1 hE 5 rfl rfl rfl rfl (by simp [go_sem]) rfl ?_)))
  go_loopw [5] (fun i wr => MayRel keys (ndB b3 70 false keys vals kids ka va ia kc vc ic :: shB b2 68 kw vw :: l) i wr) (fun i _ => keys.length + 1 - (intOf i).toNat)
  case atStart => exact ⟨0, .inr rfl, rfl, rises_one keys, hE⟩
  case round =>
    clear hE
    obtain ⟨k, hkl, rfl, hri, hE⟩ := hrel
    have hk5 : k ≤ 100000 := by omega
    have hw0 : IntKind.i64.wrap ((k : Int) + 1) = (k : Int) + 1 := wrap_id (by omega)
    have hw9 : IntKind.i64.wrap ((k : Int) + 1 - 1) = (k : Int) := by rw [wrap_id (by omega)]; omega
    have hw8 : IntKind.i64.wrap (k : Int) = (k : Int) := wrap_id (by omega)
    have hk0 : (0 : Int) ≤ (k : Int) + 1 := by omega
    by_cases hlt : k + 1 < keys.length
    · have hlt1 : k < keys.length := by omega
      have Hs := SL.hid (rises_succ keys (k + 1))
      have Hn := SL.hid (rises_not hlt)
      have Hr := SL.hid (riseOk_at hlt)
      have Hri := SL.hid hri
      clear hri
      obtain ⟨bb, bo, rfl, _⟩ := reads_map (hk _ (hE.suf (by repeat (first | exact List.suffix_refl _ | refine List.IsSuffix.trans ?_ (List.suffix_cons _ _))))) hlt1
      have La := SL.hid (fun W (hW : Ent l W) => show W.cell? ⟨bb, bo + k, none⟩ = some (strv keys[k]) from by
        obtain ⟨b', o', e, h⟩ := reads_map (hk _ hW) hlt1
        cases e
        exact h)
      have Lb := SL.hid (fun W (hW : Ent l W) => show W.cell? ⟨bb, bo + (k + 1), none⟩ = some (strv keys[k + 1]) from by
        obtain ⟨b', o', e, h⟩ := reads_map (hk _ hW) hlt
        cases e
        exact h)
      generalize keys[k] = x at *
      generalize keys[k + 1] = y at *
      cases hb : Op.bytesLess x y with
      | true =>
        have Hz := SL.hid (show rises keys (k + 1 + 1) = true by rw [Hs.out, Hri.out, Hr.out, hb]; rfl)
        go_wp2_with (first | go_skip | ((with_reducible (show Go.wpList _ _ _ (Go.Oper.mk _ (.load _ _) _ _ _ _ :: _) _ _)); first | (refine wpl_load1 hE 0 rfl rfl rfl rfl (by simp [go_sem]) rfl ?_) | (refine wpl_load1 hE 1 rfl rfl rfl rfl (by simp [go_sem]) rfl ?_) | (refine wpl_load1 hE 2 rfl rfl rfl rfl (by simp [go_sem]) rfl ?_) | (refine wpl_load1 hE 3 rfl rfl rfl rfl (by simp [go_sem]) rfl ?_) | (refine wpl_load1 hE 4 rfl rfl rfl rfl (by simp [go_sem]) rfl ?_) | (refine wpl_load1 hE 5 rfl rfl rfl rfl (by simp [go_sem]) rfl ?_)))
        refine wp_region_held_drew (S := (fun w' => ((Instr.loadAt 63 (.pointer (some ⟨b3, 1, none⟩))).run Try.prog w' = .ok (.slice (some ⟨bb, bo, none⟩) keys.length kc) w') ∧ ((Instr.loadAt 9 (.pointer (some ⟨bb, bo + k, none⟩))).run Try.prog w' = .ok (.string ⟨x.toArray⟩) w') ∧ ((Instr.loadAt 9 (.pointer (some ⟨bb, bo + (k + 1), none⟩))).run Try.prog w' = .ok (.string ⟨y.toArray⟩) w'))) (by kernel_rfl) ⟨(atVm hE.drew (by repeat (first | exact List.Mem.head _ | refine List.Mem.tail _ ?_)) (by simp [go_sem]) rfl), (atCell (La.out _ (hE.drew.suf (by repeat (first | exact List.suffix_refl _ | refine List.IsSuffix.trans ?_ (List.suffix_cons _ _))))) (by simp [go_sem])), (atCell (Lb.out _ (hE.drew.suf (by repeat (first | exact List.suffix_refl _ | refine List.IsSuffix.trans ?_ (List.suffix_cons _ _))))) (by simp [go_sem]))⟩ (fun hS => ?_)
        refine takeW 0 ⟨some 14, .fieldAddr 70 (.tmp 3) 1, 0, "node.go:64", #[], none⟩ ?_ (.inl ⟨by rfl, ?_⟩) hS ?_
        rotate_left
        · (intro w hSw; (try dsimp only at hSw); go_simp; (try with_reducible rfl))
        try simp only [Act.put, sb, s0, sz]
        refine takeW 1 ⟨some 15, .load 63 (.tmp 14), 63, "node.go:64", #[⟨0, .data⟩], none⟩ ?_ (.inl ⟨by rfl, ?_⟩) hS ?_
        rotate_left
        · (intro w hSw; (try dsimp only at hSw); go_simp; (try with_reducible rfl))
        try simp only [Act.put, sb, s0, sz]
        refine takeW 2 ⟨some 16, .move (.tmp 5), 3, "node.go:64", #[], none⟩ ?_ (.inl ⟨by rfl, ?_⟩) hS ?_
        rotate_left
        · (intro w hSw; (try dsimp only at hSw); go_simp; (try with_reducible rfl))
        try simp only [Act.put, sb, s0, sz]
        refine takeW 3 ⟨some 17, .binOp .sub 3 (.tmp 16) (.const (.int .i64 1)) 3, 3, "node.go:64", #[⟨2, .data⟩], none⟩ ?_ (.inl ⟨by rfl, ?_⟩) hS ?_
        rotate_left
        · (intro w hSw; (try dsimp only at hSw); go_simp; (try with_reducible rfl))
        try simp only [Act.put, sb, s0, sz]
        refine takeW 4 ⟨some 18, .indexAddr 63 (.tmp 15) (.tmp 17), 0, "node.go:64", #[⟨1, .data⟩, ⟨3, .data⟩], none⟩ ?_ (.inl ⟨by rfl, ?_⟩) hS ?_
        rotate_left
        · (intro w hSw; (try dsimp only at hSw); go_simp; (try with_reducible rfl))
        try simp only [Act.put, sb, s0, sz]
        refine takeW 5 ⟨some 19, .load 9 (.tmp 18), 9, "node.go:64", #[⟨4, .data⟩], none⟩ ?_ (.inl ⟨by rfl, ?_⟩) hS ?_
        rotate_left
        · (intro w hSw; (try dsimp only at hSw); go_simp; (try with_reducible rfl))
        try simp only [Act.put, sb, s0, sz]
        refine takeW 6 ⟨some 20, .fieldAddr 70 (.tmp 3) 1, 0, "node.go:64", #[], none⟩ ?_ (.inl ⟨by rfl, ?_⟩) hS ?_
        rotate_left
        · (intro w hSw; (try dsimp only at hSw); go_simp; (try with_reducible rfl))
        try simp only [Act.put, sb, s0, sz]
        refine takeW 7 ⟨some 21, .load 63 (.tmp 20), 63, "node.go:64", #[⟨6, .data⟩], none⟩ ?_ (.inl ⟨by rfl, ?_⟩) hS ?_
        rotate_left
        · (intro w hSw; (try dsimp only at hSw); go_simp; (try with_reducible rfl))
        try simp only [Act.put, sb, s0, sz]
        refine takeW 8 ⟨some 22, .move (.tmp 5), 3, "node.go:64", #[], none⟩ ?_ (.inl ⟨by rfl, ?_⟩) hS ?_
        rotate_left
        · (intro w hSw; (try dsimp only at hSw); go_simp; (try with_reducible rfl))
        try simp only [Act.put, sb, s0, sz]
        refine takeW 9 ⟨some 23, .indexAddr 63 (.tmp 21) (.tmp 22), 0, "node.go:64", #[⟨7, .data⟩, ⟨8, .data⟩], none⟩ ?_ (.inl ⟨by rfl, ?_⟩) hS ?_
        rotate_left
        · (intro w hSw; (try dsimp only at hSw); go_simp; (try with_reducible rfl))
        try simp only [Act.put, sb, s0, sz]
        refine takeW 10 ⟨some 24, .load 9 (.tmp 23), 9, "node.go:64", #[⟨9, .data⟩], none⟩ ?_ (.inl ⟨by rfl, ?_⟩) hS ?_
        rotate_left
        · (intro w hSw; (try dsimp only at hSw); go_simp; (try with_reducible rfl))
        try simp only [Act.put, sb, s0, sz]
        refine takeW 11 ⟨some 25, .binOp .geq 9 (.tmp 19) (.tmp 24) 9, 4, "node.go:64", #[⟨5, .data⟩, ⟨10, .data⟩], none⟩ ?_ (.inl ⟨by rfl, ?_⟩) hS ?_
        rotate_left
        · (intro w hSw; (try dsimp only at hSw); go_simp; (try with_reducible rfl))
        try simp only [Act.put, sb, s0, sz]
        refine wpAnyH_done (by kernel_rfl) ?_ _
        go_wp2
        go_roundw
        case rel => exact ⟨k + 1, .inl (by omega), by first | rfl | simp, Hz.out, hE.drew⟩
        case measure => simp [intOf] <;> omega
      | false =>
        have Hz := SL.hid (show mb = false from M1.out (Hn.out (by rw [Hr.out, hb])))
        go_wp2_with (first | go_skip | ((with_reducible (show Go.wpList _ _ _ (Go.Oper.mk _ (.load _ _) _ _ _ _ :: _) _ _)); first | (refine wpl_load1 hE 0 rfl rfl rfl rfl (by simp [go_sem]) rfl ?_) | (refine wpl_load1 hE 1 rfl rfl rfl rfl (by simp [go_sem]) rfl ?_) | (refine wpl_load1 hE 2 rfl rfl rfl rfl (by simp [go_sem]) rfl ?_) | (refine wpl_load1 hE 3 rfl rfl rfl rfl (by simp [go_sem]) rfl ?_) | (refine wpl_load1 hE 4 rfl rfl rfl rfl (by simp [go_sem]) rfl ?_) | (refine wpl_load1 hE 5 rfl rfl rfl rfl (by simp [go_sem]) rfl ?_)))
        refine wp_region_held_drew (S := (fun w' => ((Instr.loadAt 63 (.pointer (some ⟨b3, 1, none⟩))).run Try.prog w' = .ok (.slice (some ⟨bb, bo, none⟩) keys.length kc) w') ∧ ((Instr.loadAt 9 (.pointer (some ⟨bb, bo + k, none⟩))).run Try.prog w' = .ok (.string ⟨x.toArray⟩) w') ∧ ((Instr.loadAt 9 (.pointer (some ⟨bb, bo + (k + 1), none⟩))).run Try.prog w' = .ok (.string ⟨y.toArray⟩) w'))) (by kernel_rfl) ⟨(atVm hE.drew (by repeat (first | exact List.Mem.head _ | refine List.Mem.tail _ ?_)) (by simp [go_sem]) rfl), (atCell (La.out _ (hE.drew.suf (by repeat (first | exact List.suffix_refl _ | refine List.IsSuffix.trans ?_ (List.suffix_cons _ _))))) (by simp [go_sem])), (atCell (Lb.out _ (hE.drew.suf (by repeat (first | exact List.suffix_refl _ | refine List.IsSuffix.trans ?_ (List.suffix_cons _ _))))) (by simp [go_sem]))⟩ (fun hS => ?_)
        refine takeW 0 ⟨some 14, .fieldAddr 70 (.tmp 3) 1, 0, "node.go:64", #[], none⟩ ?_ (.inl ⟨by rfl, ?_⟩) hS ?_
        rotate_left
        · (intro w hSw; (try dsimp only at hSw); go_simp; (try with_reducible rfl))
        try simp only [Act.put, sb, s0, sz]
        refine takeW 1 ⟨some 15, .load 63 (.tmp 14), 63, "node.go:64", #[⟨0, .data⟩], none⟩ ?_ (.inl ⟨by rfl, ?_⟩) hS ?_
        rotate_left
        · (intro w hSw; (try dsimp only at hSw); go_simp; (try with_reducible rfl))
        try simp only [Act.put, sb, s0, sz]
        refine takeW 2 ⟨some 16, .move (.tmp 5), 3, "node.go:64", #[], none⟩ ?_ (.inl ⟨by rfl, ?_⟩) hS ?_
        rotate_left
        · (intro w hSw; (try dsimp only at hSw); go_simp; (try with_reducible rfl))
        try simp only [Act.put, sb, s0, sz]
        refine takeW 3 ⟨some 17, .binOp .sub 3 (.tmp 16) (.const (.int .i64 1)) 3, 3, "node.go:64", #[⟨2, .data⟩], none⟩ ?_ (.inl ⟨by rfl, ?_⟩) hS ?_
        rotate_left
        · (intro w hSw; (try dsimp only at hSw); go_simp; (try with_reducible rfl))
        try simp only [Act.put, sb, s0, sz]
        refine takeW 4 ⟨some 18, .indexAddr 63 (.tmp 15) (.tmp 17), 0, "node.go:64", #[⟨1, .data⟩, ⟨3, .data⟩], none⟩ ?_ (.inl ⟨by rfl, ?_⟩) hS ?_
        rotate_left
        · (intro w hSw; (try dsimp only at hSw); go_simp; (try with_reducible rfl))
        try simp only [Act.put, sb, s0, sz]
        refine takeW 5 ⟨some 19, .load 9 (.tmp 18), 9, "node.go:64", #[⟨4, .data⟩], none⟩ ?_ (.inl ⟨by rfl, ?_⟩) hS ?_
        rotate_left
        · (intro w hSw; (try dsimp only at hSw); go_simp; (try with_reducible rfl))
        try simp only [Act.put, sb, s0, sz]
        refine takeW 6 ⟨some 20, .fieldAddr 70 (.tmp 3) 1, 0, "node.go:64", #[], none⟩ ?_ (.inl ⟨by rfl, ?_⟩) hS ?_
        rotate_left
        · (intro w hSw; (try dsimp only at hSw); go_simp; (try with_reducible rfl))
        try simp only [Act.put, sb, s0, sz]
        refine takeW 7 ⟨some 21, .load 63 (.tmp 20), 63, "node.go:64", #[⟨6, .data⟩], none⟩ ?_ (.inl ⟨by rfl, ?_⟩) hS ?_
        rotate_left
        · (intro w hSw; (try dsimp only at hSw); go_simp; (try with_reducible rfl))
        try simp only [Act.put, sb, s0, sz]
        refine takeW 8 ⟨some 22, .move (.tmp 5), 3, "node.go:64", #[], none⟩ ?_ (.inl ⟨by rfl, ?_⟩) hS ?_
        rotate_left
        · (intro w hSw; (try dsimp only at hSw); go_simp; (try with_reducible rfl))
        try simp only [Act.put, sb, s0, sz]
        refine takeW 9 ⟨some 23, .indexAddr 63 (.tmp 21) (.tmp 22), 0, "node.go:64", #[⟨7, .data⟩, ⟨8, .data⟩], none⟩ ?_ (.inl ⟨by rfl, ?_⟩) hS ?_
        rotate_left
        · (intro w hSw; (try dsimp only at hSw); go_simp; (try with_reducible rfl))
        try simp only [Act.put, sb, s0, sz]
        refine takeW 10 ⟨some 24, .load 9 (.tmp 23), 9, "node.go:64", #[⟨9, .data⟩], none⟩ ?_ (.inl ⟨by rfl, ?_⟩) hS ?_
        rotate_left
        · (intro w hSw; (try dsimp only at hSw); go_simp; (try with_reducible rfl))
        try simp only [Act.put, sb, s0, sz]
        refine takeW 11 ⟨some 25, .binOp .geq 9 (.tmp 19) (.tmp 24) 9, 4, "node.go:64", #[⟨5, .data⟩, ⟨10, .data⟩], none⟩ ?_ (.inl ⟨by rfl, ?_⟩) hS ?_
        rotate_left
        · (intro w hSw; (try dsimp only at hSw); go_simp; (try with_reducible rfl))
        try simp only [Act.put, sb, s0, sz]
        refine wpAnyH_done (by kernel_rfl) ?_ _
        go_wp2
        go_ret
        exact ⟨_, rfl, by rw [Hz.out]; rfl, hE.drew.tail.tail⟩
    · have Hri := SL.hid (show rises keys keys.length = true by
        rcases hkl with h | rfl
        · rwa [show k + 1 = keys.length by omega] at hri
        · rcases Nat.eq_zero_or_pos keys.length with h | h
          · rw [h]; rfl
          · rwa [show 0 + 1 = keys.length by omega] at hri)
      clear hri hkl
      have hkd : decide (k + 1 < keys.length) = false := decide_eq_false hlt
      cases hwd : wideL keys kw with
      | false =>
        have Hwd := SL.hid hwd
        have Hz := SL.hid (show mb = false from M2.out hwd)
        clear hwd
        go_wp2_with (first
          | go_skip
          | (go_at_call 104; have H := wideT_any (n := kw) (show keys.length ≤ 1000000 by omega) hE (hk.suf (by repeat (first | exact List.suffix_refl _ | refine List.IsSuffix.trans ?_ (List.suffix_cons _ _)))); rw [Hwd.out] at H; refine H.mono ?_; clear H hE; rintro e w2 ⟨v, rfl, rfl, hE⟩)
          | ((with_reducible (show Go.wpList _ _ _ (Go.Oper.mk _ (.load _ _) _ _ _ _ :: _) _ _)); first | (refine wpl_load1 hE 0 rfl rfl rfl rfl (by simp [go_sem]) rfl ?_) | (refine wpl_load1 hE 1 rfl rfl rfl rfl (by simp [go_sem]) rfl ?_) | (refine wpl_load1 hE 2 rfl rfl rfl rfl (by simp [go_sem]) rfl ?_) | (refine wpl_load1 hE 3 rfl rfl rfl rfl (by simp [go_sem]) rfl ?_) | (refine wpl_load1 hE 4 rfl rfl rfl rfl (by simp [go_sem]) rfl ?_) | (refine wpl_load1 hE 5 rfl rfl rfl rfl (by simp [go_sem]) rfl ?_)))
        go_ret
        exact ⟨_, rfl, by rw [Hz.out]; rfl, hE.tail.tail⟩
      | true =>
        have Hwd := SL.hid hwd
        have Hz := SL.hid (show mb = mayI kw vw ⟨false, keys, vals, kids⟩ from M3.out Hri.out hwd)
        clear hwd M1 M2 M3
        have R := SL.hid (show mb = (kids.all kidOk && (((vals.length : Int) == 0) && (((kids.length : Int) == (keys.length : Int) + 1) && (decide (1 ≤ (keys.length : Int)) && decide ((kids.length : Int) ≤ fanN kw vw))))) from Hz.out)
        clear Hz
        have hC := fun {l : List HProp} {w : World} (h : Ent l w) => Fan_shape (kw := kw) (vw := vw) h
        generalize fanN kw vw = fan at *
        have hw1 : IntKind.i64.wrap ((keys.length : Int) + 1) = (keys.length : Int) + 1 := wrap_id (by omega)
        generalize hko : kids.all kidOk = ko at *
        have Hko := SL.hid hko
        clear hko
        cases c0 : ko with
        | false =>
          have Rz := SL.hid (show mb = false by rw [R.out, c0]; rfl)
          go_wp2_with (first
            | go_skip
            | (go_at_call 104; have H := wideT_any (n := kw) (show keys.length ≤ 1000000 by omega) hE (hk.suf (by repeat (first | exact List.suffix_refl _ | refine List.IsSuffix.trans ?_ (List.suffix_cons _ _)))); rw [Hwd.out] at H; refine H.mono ?_; clear H hE; rintro e w2 ⟨v, rfl, rfl, hE⟩)
            | (go_at_call 105; have H := everyI_any Try.call106 kidOk_any (show kids.length ≤ 1000000 by omega) hE (hi.suf (by repeat (first | exact List.suffix_refl _ | refine List.IsSuffix.trans ?_ (List.suffix_cons _ _)))); rw [Hko.out] at H; refine H.mono ?_; clear H hE; rintro e w2 ⟨v, rfl, rfl, hE⟩)
            | ((with_reducible (show Go.wpList _ _ _ (Go.Oper.mk _ (.load _ _) _ _ _ _ :: _) _ _)); first | (refine wpl_load1 hE 0 rfl rfl rfl rfl (by simp [go_sem]) rfl ?_) | (refine wpl_load1 hE 1 rfl rfl rfl rfl (by simp [go_sem]) rfl ?_) | (refine wpl_load1 hE 2 rfl rfl rfl rfl (by simp [go_sem]) rfl ?_) | (refine wpl_load1 hE 3 rfl rfl rfl rfl (by simp [go_sem]) rfl ?_) | (refine wpl_load1 hE 4 rfl rfl rfl rfl (by simp [go_sem]) rfl ?_) | (refine wpl_load1 hE 5 rfl rfl rfl rfl (by simp [go_sem]) rfl ?_)))
          refine wp_region_held_drew (S := (fun w' => ((Instr.loadAt 63 (.pointer (some ⟨b3, 1, none⟩))).run Try.prog w' = .ok (.slice ka keys.length kc) w') ∧ ((Instr.loadAt 63 (.pointer (some ⟨b3, 2, none⟩))).run Try.prog w' = .ok (.slice va vals.length vc) w') ∧ ((Instr.loadAt 64 (.pointer (some ⟨b3, 3, none⟩))).run Try.prog w' = .ok (.slice ia kids.length ic) w') ∧ ((Instr.loadAt 3 (.pointer (some ⟨b2, 1, none⟩))).run Try.prog w' = .ok (.int .i64 vw) w') ∧ ((Instr.loadAt 68 (.pointer (some ⟨b2, 0, none⟩))).run Try.prog w' = .ok (.agg [.int .i64 kw, .int .i64 vw].toArray) w'))) (by kernel_rfl) ⟨(atVm hE.drew (by repeat (first | exact List.Mem.head _ | refine List.Mem.tail _ ?_)) (by simp [go_sem]) rfl), (atVm hE.drew (by repeat (first | exact List.Mem.head _ | refine List.Mem.tail _ ?_)) (by simp [go_sem]) rfl), (atVm hE.drew (by repeat (first | exact List.Mem.head _ | refine List.Mem.tail _ ?_)) (by simp [go_sem]) rfl), (atVm hE.drew (by repeat (first | exact List.Mem.head _ | refine List.Mem.tail _ ?_)) (by simp [go_sem]) rfl), (atWm hE.drew (by repeat (first | exact List.Mem.head _ | refine List.Mem.tail _ ?_)) Try.isAgg68 Try.sizeOf68 rfl)⟩ (fun hS => ?_)
          refine takeW 0 ⟨some 65, .move (.tmp 6), 4, "node.go:75", #[], none⟩ ?_ (.inl ⟨by rfl, ?_⟩) hS ?_
          rotate_left
          · (intro w hSw; (try dsimp only at hSw); go_simp; (try with_reducible rfl))
          try simp only [Act.put, sb, s0, sz]
          refine takeW 1 ⟨some 66, .move (.tmp 65), 4, "node.go:75", #[⟨0, .data⟩], none⟩ ?_ (.inl ⟨by rfl, ?_⟩) hS ?_
          rotate_left
          · (intro w hSw; (try dsimp only at hSw); go_simp; (try with_reducible rfl))
          try simp only [Act.put, sb, s0, sz]
          refine takeW 2 ⟨some 67, .fieldAddr 70 (.tmp 3) 2, 0, "node.go:75", #[⟨1, .guard⟩], some (1, true)⟩ undef (.inr ⟨by rfl, rfl⟩) hS ?_; try simp only [Act.put, sb, s0, sz]
          refine takeW 3 ⟨some 68, .load 63 (.tmp 67), 63, "node.go:75", #[⟨2, .data⟩, ⟨1, .guard⟩], some (1, true)⟩ undef (.inr ⟨by rfl, rfl⟩) hS ?_; try simp only [Act.put, sb, s0, sz]
          refine takeW 4 ⟨some 69, .call { callee := .builtin .len, args := #[.tmp 68], argTypes := #[63] }, 3, "node.go:75", #[⟨3, .data⟩, ⟨1, .guard⟩], some (1, true)⟩ undef (.inr ⟨by rfl, rfl⟩) hS ?_; try simp only [Act.put, sb, s0, sz]
          refine takeW 5 ⟨some 70, .binOp .eql 3 (.tmp 69) (.const (.int .i64 0)) 3, 4, "node.go:75", #[⟨4, .data⟩, ⟨1, .guard⟩], some (1, true)⟩ undef (.inr ⟨by rfl, rfl⟩) hS ?_; try simp only [Act.put, sb, s0, sz]
          refine takeW 6 ⟨some 71, .pick (.tmp 66) (.tmp 70) (.const (.bool false)), 4, "node.go:75", #[⟨1, .data⟩, ⟨5, .data⟩], none⟩ ?_ (.inl ⟨by rfl, ?_⟩) hS ?_
          rotate_left
          · (intro w hSw; (try dsimp only at hSw); go_simp; (try with_reducible rfl))
          try simp only [Act.put, sb, s0, sz]
          refine takeW 7 ⟨some 72, .move (.tmp 71), 4, "node.go:75", #[⟨6, .data⟩, ⟨1, .chain⟩], none⟩ ?_ (.inl ⟨by rfl, ?_⟩) hS ?_
          rotate_left
          · (intro w hSw; (try dsimp only at hSw); go_simp; (try with_reducible rfl))
          try simp only [Act.put, sb, s0, sz]
          refine takeW 8 ⟨some 73, .fieldAddr 70 (.tmp 3) 3, 0, "node.go:75", #[⟨7, .guard⟩], some (7, true)⟩ undef (.inr ⟨by rfl, rfl⟩) hS ?_; try simp only [Act.put, sb, s0, sz]
          refine takeW 9 ⟨some 74, .load 64 (.tmp 73), 64, "node.go:75", #[⟨8, .data⟩, ⟨7, .guard⟩], some (7, true)⟩ undef (.inr ⟨by rfl, rfl⟩) hS ?_; try simp only [Act.put, sb, s0, sz]
          refine takeW 10 ⟨some 75, .call { callee := .builtin .len, args := #[.tmp 74], argTypes := #[64] }, 3, "node.go:75", #[⟨9, .data⟩, ⟨7, .guard⟩], some (7, true)⟩ undef (.inr ⟨by rfl, rfl⟩) hS ?_; try simp only [Act.put, sb, s0, sz]
          refine takeW 11 ⟨some 76, .fieldAddr 70 (.tmp 3) 1, 0, "node.go:75", #[⟨7, .guard⟩], some (7, true)⟩ undef (.inr ⟨by rfl, rfl⟩) hS ?_; try simp only [Act.put, sb, s0, sz]
          refine takeW 12 ⟨some 77, .load 63 (.tmp 76), 63, "node.go:75", #[⟨11, .data⟩, ⟨7, .guard⟩], some (7, true)⟩ undef (.inr ⟨by rfl, rfl⟩) hS ?_; try simp only [Act.put, sb, s0, sz]
          refine takeW 13 ⟨some 78, .call { callee := .builtin .len, args := #[.tmp 77], argTypes := #[63] }, 3, "node.go:75", #[⟨12, .data⟩, ⟨7, .guard⟩], some (7, true)⟩ undef (.inr ⟨by rfl, rfl⟩) hS ?_; try simp only [Act.put, sb, s0, sz]
          refine takeW 14 ⟨some 79, .binOp .add 3 (.tmp 78) (.const (.int .i64 1)) 3, 3, "node.go:75", #[⟨13, .data⟩, ⟨7, .guard⟩], some (7, true)⟩ undef (.inr ⟨by rfl, rfl⟩) hS ?_; try simp only [Act.put, sb, s0, sz]
          refine takeW 15 ⟨some 80, .binOp .eql 3 (.tmp 75) (.tmp 79) 3, 4, "node.go:75", #[⟨10, .data⟩, ⟨14, .data⟩, ⟨7, .guard⟩], some (7, true)⟩ undef (.inr ⟨by rfl, rfl⟩) hS ?_; try simp only [Act.put, sb, s0, sz]
          refine takeW 16 ⟨some 81, .pick (.tmp 72) (.tmp 80) (.const (.bool false)), 4, "node.go:75", #[⟨7, .data⟩, ⟨15, .data⟩], none⟩ ?_ (.inl ⟨by rfl, ?_⟩) hS ?_
          rotate_left
          · (intro w hSw; (try dsimp only at hSw); go_simp; (try with_reducible rfl))
          try simp only [Act.put, sb, s0, sz]
          refine takeW 17 ⟨some 82, .move (.tmp 81), 4, "node.go:75", #[⟨16, .data⟩, ⟨7, .chain⟩], none⟩ ?_ (.inl ⟨by rfl, ?_⟩) hS ?_
          rotate_left
          · (intro w hSw; (try dsimp only at hSw); go_simp; (try with_reducible rfl))
          try simp only [Act.put, sb, s0, sz]
          refine takeW 18 ⟨some 83, .fieldAddr 70 (.tmp 3) 1, 0, "node.go:75", #[⟨17, .guard⟩], some (17, true)⟩ undef (.inr ⟨by rfl, rfl⟩) hS ?_; try simp only [Act.put, sb, s0, sz]
          refine takeW 19 ⟨some 84, .load 63 (.tmp 83), 63, "node.go:75", #[⟨18, .data⟩, ⟨17, .guard⟩], some (17, true)⟩ undef (.inr ⟨by rfl, rfl⟩) hS ?_; try simp only [Act.put, sb, s0, sz]
          refine takeW 20 ⟨some 85, .call { callee := .builtin .len, args := #[.tmp 84], argTypes := #[63] }, 3, "node.go:75", #[⟨19, .data⟩, ⟨17, .guard⟩], some (17, true)⟩ undef (.inr ⟨by rfl, rfl⟩) hS ?_; try simp only [Act.put, sb, s0, sz]
          refine takeW 21 ⟨some 86, .binOp .geq 3 (.tmp 85) (.const (.int .i64 1)) 3, 4, "node.go:75", #[⟨20, .data⟩, ⟨17, .guard⟩], some (17, true)⟩ undef (.inr ⟨by rfl, rfl⟩) hS ?_; try simp only [Act.put, sb, s0, sz]
          refine takeW 22 ⟨some 87, .pick (.tmp 82) (.tmp 86) (.const (.bool false)), 4, "node.go:75", #[⟨17, .data⟩, ⟨21, .data⟩], none⟩ ?_ (.inl ⟨by rfl, ?_⟩) hS ?_
          rotate_left
          · (intro w hSw; (try dsimp only at hSw); go_simp; (try with_reducible rfl))
          try simp only [Act.put, sb, s0, sz]
          refine takeW 23 ⟨some 88, .move (.tmp 87), 4, "node.go:75", #[⟨22, .data⟩, ⟨17, .chain⟩], none⟩ ?_ (.inl ⟨by rfl, ?_⟩) hS ?_
          rotate_left
          · (intro w hSw; (try dsimp only at hSw); go_simp; (try with_reducible rfl))
          try simp only [Act.put, sb, s0, sz]
          refine takeW 24 ⟨some 89, .fieldAddr 70 (.tmp 3) 3, 0, "node.go:75", #[⟨23, .guard⟩], some (23, true)⟩ undef (.inr ⟨by rfl, rfl⟩) hS ?_; try simp only [Act.put, sb, s0, sz]
          refine takeW 25 ⟨some 90, .load 64 (.tmp 89), 64, "node.go:75", #[⟨24, .data⟩, ⟨23, .guard⟩], some (23, true)⟩ undef (.inr ⟨by rfl, rfl⟩) hS ?_; try simp only [Act.put, sb, s0, sz]
          refine takeW 26 ⟨some 91, .call { callee := .builtin .len, args := #[.tmp 90], argTypes := #[64] }, 3, "node.go:75", #[⟨25, .data⟩, ⟨23, .guard⟩], some (23, true)⟩ undef (.inr ⟨by rfl, rfl⟩) hS ?_; try simp only [Act.put, sb, s0, sz]
          refine takeW 27 ⟨some 92, .load 68 (.tmp 2), 68, "node.go:75", #[⟨23, .guard⟩], some (23, true)⟩ undef (.inr ⟨by rfl, rfl⟩) hS ?_; try simp only [Act.put, sb, s0, sz]
          refine takeW 28 ⟨some 93, .call { callee := .value (.func 31), args := #[.tmp 92], argTypes := #[68] }, 3, "node.go:75", #[⟨27, .data⟩, ⟨23, .chain⟩, ⟨23, .guard⟩], some (23, true)⟩ undef (.inr ⟨by rfl, rfl⟩) hS ?_; try simp only [Act.put, sb, s0, sz]
          refine takeW 29 ⟨some 94, .binOp .leq 3 (.tmp 91) (.tmp 93) 3, 4, "node.go:75", #[⟨26, .data⟩, ⟨28, .data⟩, ⟨23, .guard⟩], some (23, true)⟩ undef (.inr ⟨by rfl, rfl⟩) hS ?_; try simp only [Act.put, sb, s0, sz]
          refine takeW 30 ⟨some 95, .pick (.tmp 88) (.tmp 94) (.const (.bool false)), 4, "node.go:75", #[⟨23, .data⟩, ⟨29, .data⟩], none⟩ ?_ (.inl ⟨by rfl, ?_⟩) hS ?_
          rotate_left
          · (intro w hSw; (try dsimp only at hSw); go_simp; (try with_reducible rfl))
          try simp only [Act.put, sb, s0, sz]
          refine takeW 31 ⟨some 4, .assign (.tmp 95), 4, "node.go:75", #[⟨30, .data⟩, ⟨28, .chain⟩, ⟨0, .phase⟩, ⟨1, .phase⟩, ⟨2, .phase⟩, ⟨3, .phase⟩, ⟨4, .phase⟩, ⟨5, .phase⟩, ⟨6, .phase⟩, ⟨7, .phase⟩, ⟨8, .phase⟩, ⟨9, .phase⟩, ⟨10, .phase⟩, ⟨11, .phase⟩, ⟨12, .phase⟩, ⟨13, .phase⟩, ⟨14, .phase⟩, ⟨15, .phase⟩, ⟨16, .phase⟩, ⟨17, .phase⟩, ⟨18, .phase⟩, ⟨19, .phase⟩, ⟨20, .phase⟩, ⟨21, .phase⟩, ⟨22, .phase⟩, ⟨23, .phase⟩, ⟨24, .phase⟩, ⟨25, .phase⟩, ⟨26, .phase⟩, ⟨27, .phase⟩, ⟨28, .phase⟩, ⟨29, .phase⟩, ⟨30, .phase⟩], none⟩ ?_ (.inl ⟨by rfl, ?_⟩) hS ?_
          rotate_left
          · (intro w hSw; (try dsimp only at hSw); go_simp; (try with_reducible rfl))
          try simp only [Act.put, sb, s0, sz]
          refine wpAnyH_done (by kernel_rfl) ?_ _
          go_wp2
          go_ret
          exact ⟨_, rfl, by rw [Rz.out]; rfl, hE.drew.tail.tail⟩
        | true =>
          cases c1 : ((vals.length : Int) == 0) with
          | false =>
            have Rz := SL.hid (show mb = false by rw [R.out, c0, c1]; rfl)
            go_wp2_with (first
              | go_skip
              | (go_at_call 104; have H := wideT_any (n := kw) (show keys.length ≤ 1000000 by omega) hE (hk.suf (by repeat (first | exact List.suffix_refl _ | refine List.IsSuffix.trans ?_ (List.suffix_cons _ _)))); rw [Hwd.out] at H; refine H.mono ?_; clear H hE; rintro e w2 ⟨v, rfl, rfl, hE⟩)
              | (go_at_call 105; have H := everyI_any Try.call106 kidOk_any (show kids.length ≤ 1000000 by omega) hE (hi.suf (by repeat (first | exact List.suffix_refl _ | refine List.IsSuffix.trans ?_ (List.suffix_cons _ _)))); rw [Hko.out] at H; refine H.mono ?_; clear H hE; rintro e w2 ⟨v, rfl, rfl, hE⟩)
              | ((with_reducible (show Go.wpList _ _ _ (Go.Oper.mk _ (.load _ _) _ _ _ _ :: _) _ _)); first | (refine wpl_load1 hE 0 rfl rfl rfl rfl (by simp [go_sem]) rfl ?_) | (refine wpl_load1 hE 1 rfl rfl rfl rfl (by simp [go_sem]) rfl ?_) | (refine wpl_load1 hE 2 rfl rfl rfl rfl (by simp [go_sem]) rfl ?_) | (refine wpl_load1 hE 3 rfl rfl rfl rfl (by simp [go_sem]) rfl ?_) | (refine wpl_load1 hE 4 rfl rfl rfl rfl (by simp [go_sem]) rfl ?_) | (refine wpl_load1 hE 5 rfl rfl rfl rfl (by simp [go_sem]) rfl ?_)))
            refine wp_region_held_drew (S := (fun w' => ((Instr.loadAt 63 (.pointer (some ⟨b3, 1, none⟩))).run Try.prog w' = .ok (.slice ka keys.length kc) w') ∧ ((Instr.loadAt 63 (.pointer (some ⟨b3, 2, none⟩))).run Try.prog w' = .ok (.slice va vals.length vc) w') ∧ ((Instr.loadAt 64 (.pointer (some ⟨b3, 3, none⟩))).run Try.prog w' = .ok (.slice ia kids.length ic) w') ∧ ((Instr.loadAt 3 (.pointer (some ⟨b2, 1, none⟩))).run Try.prog w' = .ok (.int .i64 vw) w') ∧ ((Instr.loadAt 68 (.pointer (some ⟨b2, 0, none⟩))).run Try.prog w' = .ok (.agg [.int .i64 kw, .int .i64 vw].toArray) w'))) (by kernel_rfl) ⟨(atVm hE.drew (by repeat (first | exact List.Mem.head _ | refine List.Mem.tail _ ?_)) (by simp [go_sem]) rfl), (atVm hE.drew (by repeat (first | exact List.Mem.head _ | refine List.Mem.tail _ ?_)) (by simp [go_sem]) rfl), (atVm hE.drew (by repeat (first | exact List.Mem.head _ | refine List.Mem.tail _ ?_)) (by simp [go_sem]) rfl), (atVm hE.drew (by repeat (first | exact List.Mem.head _ | refine List.Mem.tail _ ?_)) (by simp [go_sem]) rfl), (atWm hE.drew (by repeat (first | exact List.Mem.head _ | refine List.Mem.tail _ ?_)) Try.isAgg68 Try.sizeOf68 rfl)⟩ (fun hS => ?_)
            refine takeW 0 ⟨some 65, .move (.tmp 6), 4, "node.go:75", #[], none⟩ ?_ (.inl ⟨by rfl, ?_⟩) hS ?_
            rotate_left
            · (intro w hSw; (try dsimp only at hSw); go_simp; (try with_reducible rfl))
            try simp only [Act.put, sb, s0, sz]
            refine takeW 1 ⟨some 66, .move (.tmp 65), 4, "node.go:75", #[⟨0, .data⟩], none⟩ ?_ (.inl ⟨by rfl, ?_⟩) hS ?_
            rotate_left
            · (intro w hSw; (try dsimp only at hSw); go_simp; (try with_reducible rfl))
            try simp only [Act.put, sb, s0, sz]
            refine takeW 2 ⟨some 67, .fieldAddr 70 (.tmp 3) 2, 0, "node.go:75", #[⟨1, .guard⟩], some (1, true)⟩ ?_ (.inl ⟨by rfl, ?_⟩) hS ?_
            rotate_left
            · (intro w hSw; (try dsimp only at hSw); go_simp; (try with_reducible rfl))
            try simp only [Act.put, sb, s0, sz]
            refine takeW 3 ⟨some 68, .load 63 (.tmp 67), 63, "node.go:75", #[⟨2, .data⟩, ⟨1, .guard⟩], some (1, true)⟩ ?_ (.inl ⟨by rfl, ?_⟩) hS ?_
            rotate_left
            · (intro w hSw; (try dsimp only at hSw); go_simp; (try with_reducible rfl))
            try simp only [Act.put, sb, s0, sz]
            refine takeW 4 ⟨some 69, .call { callee := .builtin .len, args := #[.tmp 68], argTypes := #[63] }, 3, "node.go:75", #[⟨3, .data⟩, ⟨1, .guard⟩], some (1, true)⟩ ?_ (.inl ⟨by rfl, ?_⟩) hS ?_
            rotate_left
            · (intro w hSw; (try dsimp only at hSw); go_simp; (try with_reducible rfl))
            try simp only [Act.put, sb, s0, sz]
            refine takeW 5 ⟨some 70, .binOp .eql 3 (.tmp 69) (.const (.int .i64 0)) 3, 4, "node.go:75", #[⟨4, .data⟩, ⟨1, .guard⟩], some (1, true)⟩ ?_ (.inl ⟨by rfl, ?_⟩) hS ?_
            rotate_left
            · (intro w hSw; (try dsimp only at hSw); go_simp; (try with_reducible rfl))
            try simp only [Act.put, sb, s0, sz]
            refine takeW 6 ⟨some 71, .pick (.tmp 66) (.tmp 70) (.const (.bool false)), 4, "node.go:75", #[⟨1, .data⟩, ⟨5, .data⟩], none⟩ ?_ (.inl ⟨by rfl, ?_⟩) hS ?_
            rotate_left
            · (intro w hSw; (try dsimp only at hSw); go_simp; (try with_reducible rfl))
            try simp only [Act.put, sb, s0, sz]
            refine takeW 7 ⟨some 72, .move (.tmp 71), 4, "node.go:75", #[⟨6, .data⟩, ⟨1, .chain⟩], none⟩ ?_ (.inl ⟨by rfl, ?_⟩) hS ?_
            rotate_left
            · (intro w hSw; (try dsimp only at hSw); go_simp; (try with_reducible rfl))
            try simp only [Act.put, sb, s0, sz]
            refine takeW 8 ⟨some 73, .fieldAddr 70 (.tmp 3) 3, 0, "node.go:75", #[⟨7, .guard⟩], some (7, true)⟩ undef (.inr ⟨by rfl, rfl⟩) hS ?_; try simp only [Act.put, sb, s0, sz]
            refine takeW 9 ⟨some 74, .load 64 (.tmp 73), 64, "node.go:75", #[⟨8, .data⟩, ⟨7, .guard⟩], some (7, true)⟩ undef (.inr ⟨by rfl, rfl⟩) hS ?_; try simp only [Act.put, sb, s0, sz]
            refine takeW 10 ⟨some 75, .call { callee := .builtin .len, args := #[.tmp 74], argTypes := #[64] }, 3, "node.go:75", #[⟨9, .data⟩, ⟨7, .guard⟩], some (7, true)⟩ undef (.inr ⟨by rfl, rfl⟩) hS ?_; try simp only [Act.put, sb, s0, sz]
            refine takeW 11 ⟨some 76, .fieldAddr 70 (.tmp 3) 1, 0, "node.go:75", #[⟨7, .guard⟩], some (7, true)⟩ undef (.inr ⟨by rfl, rfl⟩) hS ?_; try simp only [Act.put, sb, s0, sz]
            refine takeW 12 ⟨some 77, .load 63 (.tmp 76), 63, "node.go:75", #[⟨11, .data⟩, ⟨7, .guard⟩], some (7, true)⟩ undef (.inr ⟨by rfl, rfl⟩) hS ?_; try simp only [Act.put, sb, s0, sz]
            refine takeW 13 ⟨some 78, .call { callee := .builtin .len, args := #[.tmp 77], argTypes := #[63] }, 3, "node.go:75", #[⟨12, .data⟩, ⟨7, .guard⟩], some (7, true)⟩ undef (.inr ⟨by rfl, rfl⟩) hS ?_; try simp only [Act.put, sb, s0, sz]
            refine takeW 14 ⟨some 79, .binOp .add 3 (.tmp 78) (.const (.int .i64 1)) 3, 3, "node.go:75", #[⟨13, .data⟩, ⟨7, .guard⟩], some (7, true)⟩ undef (.inr ⟨by rfl, rfl⟩) hS ?_; try simp only [Act.put, sb, s0, sz]
            refine takeW 15 ⟨some 80, .binOp .eql 3 (.tmp 75) (.tmp 79) 3, 4, "node.go:75", #[⟨10, .data⟩, ⟨14, .data⟩, ⟨7, .guard⟩], some (7, true)⟩ undef (.inr ⟨by rfl, rfl⟩) hS ?_; try simp only [Act.put, sb, s0, sz]
            refine takeW 16 ⟨some 81, .pick (.tmp 72) (.tmp 80) (.const (.bool false)), 4, "node.go:75", #[⟨7, .data⟩, ⟨15, .data⟩], none⟩ ?_ (.inl ⟨by rfl, ?_⟩) hS ?_
            rotate_left
            · (intro w hSw; (try dsimp only at hSw); go_simp; (try with_reducible rfl))
            try simp only [Act.put, sb, s0, sz]
            refine takeW 17 ⟨some 82, .move (.tmp 81), 4, "node.go:75", #[⟨16, .data⟩, ⟨7, .chain⟩], none⟩ ?_ (.inl ⟨by rfl, ?_⟩) hS ?_
            rotate_left
            · (intro w hSw; (try dsimp only at hSw); go_simp; (try with_reducible rfl))
            try simp only [Act.put, sb, s0, sz]
            refine takeW 18 ⟨some 83, .fieldAddr 70 (.tmp 3) 1, 0, "node.go:75", #[⟨17, .guard⟩], some (17, true)⟩ undef (.inr ⟨by rfl, rfl⟩) hS ?_; try simp only [Act.put, sb, s0, sz]
            refine takeW 19 ⟨some 84, .load 63 (.tmp 83), 63, "node.go:75", #[⟨18, .data⟩, ⟨17, .guard⟩], some (17, true)⟩ undef (.inr ⟨by rfl, rfl⟩) hS ?_; try simp only [Act.put, sb, s0, sz]
            refine takeW 20 ⟨some 85, .call { callee := .builtin .len, args := #[.tmp 84], argTypes := #[63] }, 3, "node.go:75", #[⟨19, .data⟩, ⟨17, .guard⟩], some (17, true)⟩ undef (.inr ⟨by rfl, rfl⟩) hS ?_; try simp only [Act.put, sb, s0, sz]
            refine takeW 21 ⟨some 86, .binOp .geq 3 (.tmp 85) (.const (.int .i64 1)) 3, 4, "node.go:75", #[⟨20, .data⟩, ⟨17, .guard⟩], some (17, true)⟩ undef (.inr ⟨by rfl, rfl⟩) hS ?_; try simp only [Act.put, sb, s0, sz]
            refine takeW 22 ⟨some 87, .pick (.tmp 82) (.tmp 86) (.const (.bool false)), 4, "node.go:75", #[⟨17, .data⟩, ⟨21, .data⟩], none⟩ ?_ (.inl ⟨by rfl, ?_⟩) hS ?_
            rotate_left
            · (intro w hSw; (try dsimp only at hSw); go_simp; (try with_reducible rfl))
            try simp only [Act.put, sb, s0, sz]
            refine takeW 23 ⟨some 88, .move (.tmp 87), 4, "node.go:75", #[⟨22, .data⟩, ⟨17, .chain⟩], none⟩ ?_ (.inl ⟨by rfl, ?_⟩) hS ?_
            rotate_left
            · (intro w hSw; (try dsimp only at hSw); go_simp; (try with_reducible rfl))
            try simp only [Act.put, sb, s0, sz]
            refine takeW 24 ⟨some 89, .fieldAddr 70 (.tmp 3) 3, 0, "node.go:75", #[⟨23, .guard⟩], some (23, true)⟩ undef (.inr ⟨by rfl, rfl⟩) hS ?_; try simp only [Act.put, sb, s0, sz]
            refine takeW 25 ⟨some 90, .load 64 (.tmp 89), 64, "node.go:75", #[⟨24, .data⟩, ⟨23, .guard⟩], some (23, true)⟩ undef (.inr ⟨by rfl, rfl⟩) hS ?_; try simp only [Act.put, sb, s0, sz]
            refine takeW 26 ⟨some 91, .call { callee := .builtin .len, args := #[.tmp 90], argTypes := #[64] }, 3, "node.go:75", #[⟨25, .data⟩, ⟨23, .guard⟩], some (23, true)⟩ undef (.inr ⟨by rfl, rfl⟩) hS ?_; try simp only [Act.put, sb, s0, sz]
            refine takeW 27 ⟨some 92, .load 68 (.tmp 2), 68, "node.go:75", #[⟨23, .guard⟩], some (23, true)⟩ undef (.inr ⟨by rfl, rfl⟩) hS ?_; try simp only [Act.put, sb, s0, sz]
            refine takeW 28 ⟨some 93, .call { callee := .value (.func 31), args := #[.tmp 92], argTypes := #[68] }, 3, "node.go:75", #[⟨27, .data⟩, ⟨23, .chain⟩, ⟨23, .guard⟩], some (23, true)⟩ undef (.inr ⟨by rfl, rfl⟩) hS ?_; try simp only [Act.put, sb, s0, sz]
            refine takeW 29 ⟨some 94, .binOp .leq 3 (.tmp 91) (.tmp 93) 3, 4, "node.go:75", #[⟨26, .data⟩, ⟨28, .data⟩, ⟨23, .guard⟩], some (23, true)⟩ undef (.inr ⟨by rfl, rfl⟩) hS ?_; try simp only [Act.put, sb, s0, sz]
            refine takeW 30 ⟨some 95, .pick (.tmp 88) (.tmp 94) (.const (.bool false)), 4, "node.go:75", #[⟨23, .data⟩, ⟨29, .data⟩], none⟩ ?_ (.inl ⟨by rfl, ?_⟩) hS ?_
            rotate_left
            · (intro w hSw; (try dsimp only at hSw); go_simp; (try with_reducible rfl))
            try simp only [Act.put, sb, s0, sz]
            refine takeW 31 ⟨some 4, .assign (.tmp 95), 4, "node.go:75", #[⟨30, .data⟩, ⟨28, .chain⟩, ⟨0, .phase⟩, ⟨1, .phase⟩, ⟨2, .phase⟩, ⟨3, .phase⟩, ⟨4, .phase⟩, ⟨5, .phase⟩, ⟨6, .phase⟩, ⟨7, .phase⟩, ⟨8, .phase⟩, ⟨9, .phase⟩, ⟨10, .phase⟩, ⟨11, .phase⟩, ⟨12, .phase⟩, ⟨13, .phase⟩, ⟨14, .phase⟩, ⟨15, .phase⟩, ⟨16, .phase⟩, ⟨17, .phase⟩, ⟨18, .phase⟩, ⟨19, .phase⟩, ⟨20, .phase⟩, ⟨21, .phase⟩, ⟨22, .phase⟩, ⟨23, .phase⟩, ⟨24, .phase⟩, ⟨25, .phase⟩, ⟨26, .phase⟩, ⟨27, .phase⟩, ⟨28, .phase⟩, ⟨29, .phase⟩, ⟨30, .phase⟩], none⟩ ?_ (.inl ⟨by rfl, ?_⟩) hS ?_
            rotate_left
            · (intro w hSw; (try dsimp only at hSw); go_simp; (try with_reducible rfl))
            try simp only [Act.put, sb, s0, sz]
            refine wpAnyH_done (by kernel_rfl) ?_ _
            go_wp2
            go_ret
            exact ⟨_, rfl, by rw [Rz.out]; rfl, hE.drew.tail.tail⟩
          | true =>
            cases c2 : ((kids.length : Int) == (keys.length : Int) + 1) with
            | false =>
              have Rz := SL.hid (show mb = false by rw [R.out, c0, c1, c2]; rfl)
              go_wp2_with (first
                | go_skip
                | (go_at_call 104; have H := wideT_any (n := kw) (show keys.length ≤ 1000000 by omega) hE (hk.suf (by repeat (first | exact List.suffix_refl _ | refine List.IsSuffix.trans ?_ (List.suffix_cons _ _)))); rw [Hwd.out] at H; refine H.mono ?_; clear H hE; rintro e w2 ⟨v, rfl, rfl, hE⟩)
                | (go_at_call 105; have H := everyI_any Try.call106 kidOk_any (show kids.length ≤ 1000000 by omega) hE (hi.suf (by repeat (first | exact List.suffix_refl _ | refine List.IsSuffix.trans ?_ (List.suffix_cons _ _)))); rw [Hko.out] at H; refine H.mono ?_; clear H hE; rintro e w2 ⟨v, rfl, rfl, hE⟩)
                | ((with_reducible (show Go.wpList _ _ _ (Go.Oper.mk _ (.load _ _) _ _ _ _ :: _) _ _)); first | (refine wpl_load1 hE 0 rfl rfl rfl rfl (by simp [go_sem]) rfl ?_) | (refine wpl_load1 hE 1 rfl rfl rfl rfl (by simp [go_sem]) rfl ?_) | (refine wpl_load1 hE 2 rfl rfl rfl rfl (by simp [go_sem]) rfl ?_) | (refine wpl_load1 hE 3 rfl rfl rfl rfl (by simp [go_sem]) rfl ?_) | (refine wpl_load1 hE 4 rfl rfl rfl rfl (by simp [go_sem]) rfl ?_) | (refine wpl_load1 hE 5 rfl rfl rfl rfl (by simp [go_sem]) rfl ?_)))
              refine wp_region_held_drew (S := (fun w' => ((Instr.loadAt 63 (.pointer (some ⟨b3, 1, none⟩))).run Try.prog w' = .ok (.slice ka keys.length kc) w') ∧ ((Instr.loadAt 63 (.pointer (some ⟨b3, 2, none⟩))).run Try.prog w' = .ok (.slice va vals.length vc) w') ∧ ((Instr.loadAt 64 (.pointer (some ⟨b3, 3, none⟩))).run Try.prog w' = .ok (.slice ia kids.length ic) w') ∧ ((Instr.loadAt 3 (.pointer (some ⟨b2, 1, none⟩))).run Try.prog w' = .ok (.int .i64 vw) w') ∧ ((Instr.loadAt 68 (.pointer (some ⟨b2, 0, none⟩))).run Try.prog w' = .ok (.agg [.int .i64 kw, .int .i64 vw].toArray) w'))) (by kernel_rfl) ⟨(atVm hE.drew (by repeat (first | exact List.Mem.head _ | refine List.Mem.tail _ ?_)) (by simp [go_sem]) rfl), (atVm hE.drew (by repeat (first | exact List.Mem.head _ | refine List.Mem.tail _ ?_)) (by simp [go_sem]) rfl), (atVm hE.drew (by repeat (first | exact List.Mem.head _ | refine List.Mem.tail _ ?_)) (by simp [go_sem]) rfl), (atVm hE.drew (by repeat (first | exact List.Mem.head _ | refine List.Mem.tail _ ?_)) (by simp [go_sem]) rfl), (atWm hE.drew (by repeat (first | exact List.Mem.head _ | refine List.Mem.tail _ ?_)) Try.isAgg68 Try.sizeOf68 rfl)⟩ (fun hS => ?_)
              refine takeW 0 ⟨some 65, .move (.tmp 6), 4, "node.go:75", #[], none⟩ ?_ (.inl ⟨by rfl, ?_⟩) hS ?_
              rotate_left
              · (intro w hSw; (try dsimp only at hSw); go_simp; (try with_reducible rfl))
              try simp only [Act.put, sb, s0, sz]
              refine takeW 1 ⟨some 66, .move (.tmp 65), 4, "node.go:75", #[⟨0, .data⟩], none⟩ ?_ (.inl ⟨by rfl, ?_⟩) hS ?_
              rotate_left
              · (intro w hSw; (try dsimp only at hSw); go_simp; (try with_reducible rfl))
              try simp only [Act.put, sb, s0, sz]
              refine takeW 2 ⟨some 67, .fieldAddr 70 (.tmp 3) 2, 0, "node.go:75", #[⟨1, .guard⟩], some (1, true)⟩ ?_ (.inl ⟨by rfl, ?_⟩) hS ?_
              rotate_left
              · (intro w hSw; (try dsimp only at hSw); go_simp; (try with_reducible rfl))
              try simp only [Act.put, sb, s0, sz]
              refine takeW 3 ⟨some 68, .load 63 (.tmp 67), 63, "node.go:75", #[⟨2, .data⟩, ⟨1, .guard⟩], some (1, true)⟩ ?_ (.inl ⟨by rfl, ?_⟩) hS ?_
              rotate_left
              · (intro w hSw; (try dsimp only at hSw); go_simp; (try with_reducible rfl))
              try simp only [Act.put, sb, s0, sz]
              refine takeW 4 ⟨some 69, .call { callee := .builtin .len, args := #[.tmp 68], argTypes := #[63] }, 3, "node.go:75", #[⟨3, .data⟩, ⟨1, .guard⟩], some (1, true)⟩ ?_ (.inl ⟨by rfl, ?_⟩) hS ?_
              rotate_left
              · (intro w hSw; (try dsimp only at hSw); go_simp; (try with_reducible rfl))
              try simp only [Act.put, sb, s0, sz]
              refine takeW 5 ⟨some 70, .binOp .eql 3 (.tmp 69) (.const (.int .i64 0)) 3, 4, "node.go:75", #[⟨4, .data⟩, ⟨1, .guard⟩], some (1, true)⟩ ?_ (.inl ⟨by rfl, ?_⟩) hS ?_
              rotate_left
              · (intro w hSw; (try dsimp only at hSw); go_simp; (try with_reducible rfl))
              try simp only [Act.put, sb, s0, sz]
              refine takeW 6 ⟨some 71, .pick (.tmp 66) (.tmp 70) (.const (.bool false)), 4, "node.go:75", #[⟨1, .data⟩, ⟨5, .data⟩], none⟩ ?_ (.inl ⟨by rfl, ?_⟩) hS ?_
              rotate_left
              · (intro w hSw; (try dsimp only at hSw); go_simp; (try with_reducible rfl))
              try simp only [Act.put, sb, s0, sz]
              refine takeW 7 ⟨some 72, .move (.tmp 71), 4, "node.go:75", #[⟨6, .data⟩, ⟨1, .chain⟩], none⟩ ?_ (.inl ⟨by rfl, ?_⟩) hS ?_
              rotate_left
              · (intro w hSw; (try dsimp only at hSw); go_simp; (try with_reducible rfl))
              try simp only [Act.put, sb, s0, sz]
              refine takeW 8 ⟨some 73, .fieldAddr 70 (.tmp 3) 3, 0, "node.go:75", #[⟨7, .guard⟩], some (7, true)⟩ ?_ (.inl ⟨by rfl, ?_⟩) hS ?_
              rotate_left
              · (intro w hSw; (try dsimp only at hSw); go_simp; (try with_reducible rfl))
              try simp only [Act.put, sb, s0, sz]
              refine takeW 9 ⟨some 74, .load 64 (.tmp 73), 64, "node.go:75", #[⟨8, .data⟩, ⟨7, .guard⟩], some (7, true)⟩ ?_ (.inl ⟨by rfl, ?_⟩) hS ?_
              rotate_left
              · (intro w hSw; (try dsimp only at hSw); go_simp; (try with_reducible rfl))
              try simp only [Act.put, sb, s0, sz]
              refine takeW 10 ⟨some 75, .call { callee := .builtin .len, args := #[.tmp 74], argTypes := #[64] }, 3, "node.go:75", #[⟨9, .data⟩, ⟨7, .guard⟩], some (7, true)⟩ ?_ (.inl ⟨by rfl, ?_⟩) hS ?_
              rotate_left
              · (intro w hSw; (try dsimp only at hSw); go_simp; (try with_reducible rfl))
              try simp only [Act.put, sb, s0, sz]
              refine takeW 11 ⟨some 76, .fieldAddr 70 (.tmp 3) 1, 0, "node.go:75", #[⟨7, .guard⟩], some (7, true)⟩ ?_ (.inl ⟨by rfl, ?_⟩) hS ?_
              rotate_left
              · (intro w hSw; (try dsimp only at hSw); go_simp; (try with_reducible rfl))
              try simp only [Act.put, sb, s0, sz]
              refine takeW 12 ⟨some 77, .load 63 (.tmp 76), 63, "node.go:75", #[⟨11, .data⟩, ⟨7, .guard⟩], some (7, true)⟩ ?_ (.inl ⟨by rfl, ?_⟩) hS ?_
              rotate_left
              · (intro w hSw; (try dsimp only at hSw); go_simp; (try with_reducible rfl))
              try simp only [Act.put, sb, s0, sz]
              refine takeW 13 ⟨some 78, .call { callee := .builtin .len, args := #[.tmp 77], argTypes := #[63] }, 3, "node.go:75", #[⟨12, .data⟩, ⟨7, .guard⟩], some (7, true)⟩ ?_ (.inl ⟨by rfl, ?_⟩) hS ?_
              rotate_left
              · (intro w hSw; (try dsimp only at hSw); go_simp; (try with_reducible rfl))
              try simp only [Act.put, sb, s0, sz]
              refine takeW 14 ⟨some 79, .binOp .add 3 (.tmp 78) (.const (.int .i64 1)) 3, 3, "node.go:75", #[⟨13, .data⟩, ⟨7, .guard⟩], some (7, true)⟩ ?_ (.inl ⟨by rfl, ?_⟩) hS ?_
              rotate_left
              · (intro w hSw; (try dsimp only at hSw); go_simp; (try with_reducible rfl))
              try simp only [Act.put, sb, s0, sz]
              refine takeW 15 ⟨some 80, .binOp .eql 3 (.tmp 75) (.tmp 79) 3, 4, "node.go:75", #[⟨10, .data⟩, ⟨14, .data⟩, ⟨7, .guard⟩], some (7, true)⟩ ?_ (.inl ⟨by rfl, ?_⟩) hS ?_
              rotate_left
              · (intro w hSw; (try dsimp only at hSw); go_simp; (try with_reducible rfl))
              try simp only [Act.put, sb, s0, sz]
              refine takeW 16 ⟨some 81, .pick (.tmp 72) (.tmp 80) (.const (.bool false)), 4, "node.go:75", #[⟨7, .data⟩, ⟨15, .data⟩], none⟩ ?_ (.inl ⟨by rfl, ?_⟩) hS ?_
              rotate_left
              · (intro w hSw; (try dsimp only at hSw); go_simp; (try with_reducible rfl))
              try simp only [Act.put, sb, s0, sz]
              refine takeW 17 ⟨some 82, .move (.tmp 81), 4, "node.go:75", #[⟨16, .data⟩, ⟨7, .chain⟩], none⟩ ?_ (.inl ⟨by rfl, ?_⟩) hS ?_
              rotate_left
              · (intro w hSw; (try dsimp only at hSw); go_simp; (try with_reducible rfl))
              try simp only [Act.put, sb, s0, sz]
              refine takeW 18 ⟨some 83, .fieldAddr 70 (.tmp 3) 1, 0, "node.go:75", #[⟨17, .guard⟩], some (17, true)⟩ undef (.inr ⟨by rfl, rfl⟩) hS ?_; try simp only [Act.put, sb, s0, sz]
              refine takeW 19 ⟨some 84, .load 63 (.tmp 83), 63, "node.go:75", #[⟨18, .data⟩, ⟨17, .guard⟩], some (17, true)⟩ undef (.inr ⟨by rfl, rfl⟩) hS ?_; try simp only [Act.put, sb, s0, sz]
              refine takeW 20 ⟨some 85, .call { callee := .builtin .len, args := #[.tmp 84], argTypes := #[63] }, 3, "node.go:75", #[⟨19, .data⟩, ⟨17, .guard⟩], some (17, true)⟩ undef (.inr ⟨by rfl, rfl⟩) hS ?_; try simp only [Act.put, sb, s0, sz]
              refine takeW 21 ⟨some 86, .binOp .geq 3 (.tmp 85) (.const (.int .i64 1)) 3, 4, "node.go:75", #[⟨20, .data⟩, ⟨17, .guard⟩], some (17, true)⟩ undef (.inr ⟨by rfl, rfl⟩) hS ?_; try simp only [Act.put, sb, s0, sz]
              refine takeW 22 ⟨some 87, .pick (.tmp 82) (.tmp 86) (.const (.bool false)), 4, "node.go:75", #[⟨17, .data⟩, ⟨21, .data⟩], none⟩ ?_ (.inl ⟨by rfl, ?_⟩) hS ?_
              rotate_left
              · (intro w hSw; (try dsimp only at hSw); go_simp; (try with_reducible rfl))
              try simp only [Act.put, sb, s0, sz]
              refine takeW 23 ⟨some 88, .move (.tmp 87), 4, "node.go:75", #[⟨22, .data⟩, ⟨17, .chain⟩], none⟩ ?_ (.inl ⟨by rfl, ?_⟩) hS ?_
              rotate_left
              · (intro w hSw; (try dsimp only at hSw); go_simp; (try with_reducible rfl))
              try simp only [Act.put, sb, s0, sz]
              refine takeW 24 ⟨some 89, .fieldAddr 70 (.tmp 3) 3, 0, "node.go:75", #[⟨23, .guard⟩], some (23, true)⟩ undef (.inr ⟨by rfl, rfl⟩) hS ?_; try simp only [Act.put, sb, s0, sz]
              refine takeW 25 ⟨some 90, .load 64 (.tmp 89), 64, "node.go:75", #[⟨24, .data⟩, ⟨23, .guard⟩], some (23, true)⟩ undef (.inr ⟨by rfl, rfl⟩) hS ?_; try simp only [Act.put, sb, s0, sz]
              refine takeW 26 ⟨some 91, .call { callee := .builtin .len, args := #[.tmp 90], argTypes := #[64] }, 3, "node.go:75", #[⟨25, .data⟩, ⟨23, .guard⟩], some (23, true)⟩ undef (.inr ⟨by rfl, rfl⟩) hS ?_; try simp only [Act.put, sb, s0, sz]
              refine takeW 27 ⟨some 92, .load 68 (.tmp 2), 68, "node.go:75", #[⟨23, .guard⟩], some (23, true)⟩ undef (.inr ⟨by rfl, rfl⟩) hS ?_; try simp only [Act.put, sb, s0, sz]
              refine takeW 28 ⟨some 93, .call { callee := .value (.func 31), args := #[.tmp 92], argTypes := #[68] }, 3, "node.go:75", #[⟨27, .data⟩, ⟨23, .chain⟩, ⟨23, .guard⟩], some (23, true)⟩ undef (.inr ⟨by rfl, rfl⟩) hS ?_; try simp only [Act.put, sb, s0, sz]
              refine takeW 29 ⟨some 94, .binOp .leq 3 (.tmp 91) (.tmp 93) 3, 4, "node.go:75", #[⟨26, .data⟩, ⟨28, .data⟩, ⟨23, .guard⟩], some (23, true)⟩ undef (.inr ⟨by rfl, rfl⟩) hS ?_; try simp only [Act.put, sb, s0, sz]
              refine takeW 30 ⟨some 95, .pick (.tmp 88) (.tmp 94) (.const (.bool false)), 4, "node.go:75", #[⟨23, .data⟩, ⟨29, .data⟩], none⟩ ?_ (.inl ⟨by rfl, ?_⟩) hS ?_
              rotate_left
              · (intro w hSw; (try dsimp only at hSw); go_simp; (try with_reducible rfl))
              try simp only [Act.put, sb, s0, sz]
              refine takeW 31 ⟨some 4, .assign (.tmp 95), 4, "node.go:75", #[⟨30, .data⟩, ⟨28, .chain⟩, ⟨0, .phase⟩, ⟨1, .phase⟩, ⟨2, .phase⟩, ⟨3, .phase⟩, ⟨4, .phase⟩, ⟨5, .phase⟩, ⟨6, .phase⟩, ⟨7, .phase⟩, ⟨8, .phase⟩, ⟨9, .phase⟩, ⟨10, .phase⟩, ⟨11, .phase⟩, ⟨12, .phase⟩, ⟨13, .phase⟩, ⟨14, .phase⟩, ⟨15, .phase⟩, ⟨16, .phase⟩, ⟨17, .phase⟩, ⟨18, .phase⟩, ⟨19, .phase⟩, ⟨20, .phase⟩, ⟨21, .phase⟩, ⟨22, .phase⟩, ⟨23, .phase⟩, ⟨24, .phase⟩, ⟨25, .phase⟩, ⟨26, .phase⟩, ⟨27, .phase⟩, ⟨28, .phase⟩, ⟨29, .phase⟩, ⟨30, .phase⟩], none⟩ ?_ (.inl ⟨by rfl, ?_⟩) hS ?_
              rotate_left
              · (intro w hSw; (try dsimp only at hSw); go_simp; (try with_reducible rfl))
              try simp only [Act.put, sb, s0, sz]
              refine wpAnyH_done (by kernel_rfl) ?_ _
              go_wp2
              go_ret
              exact ⟨_, rfl, by rw [Rz.out]; rfl, hE.drew.tail.tail⟩
            | true =>
              cases c3 : decide (1 ≤ (keys.length : Int)) with
              | false =>
                have Rz := SL.hid (show mb = false by rw [R.out, c0, c1, c2, c3]; rfl)
                go_wp2_with (first
                  | go_skip
                  | (go_at_call 104; have H := wideT_any (n := kw) (show keys.length ≤ 1000000 by omega) hE (hk.suf (by repeat (first | exact List.suffix_refl _ | refine List.IsSuffix.trans ?_ (List.suffix_cons _ _)))); rw [Hwd.out] at H; refine H.mono ?_; clear H hE; rintro e w2 ⟨v, rfl, rfl, hE⟩)
                  | (go_at_call 105; have H := everyI_any Try.call106 kidOk_any (show kids.length ≤ 1000000 by omega) hE (hi.suf (by repeat (first | exact List.suffix_refl _ | refine List.IsSuffix.trans ?_ (List.suffix_cons _ _)))); rw [Hko.out] at H; refine H.mono ?_; clear H hE; rintro e w2 ⟨v, rfl, rfl, hE⟩)
                  | ((with_reducible (show Go.wpList _ _ _ (Go.Oper.mk _ (.load _ _) _ _ _ _ :: _) _ _)); first | (refine wpl_load1 hE 0 rfl rfl rfl rfl (by simp [go_sem]) rfl ?_) | (refine wpl_load1 hE 1 rfl rfl rfl rfl (by simp [go_sem]) rfl ?_) | (refine wpl_load1 hE 2 rfl rfl rfl rfl (by simp [go_sem]) rfl ?_) | (refine wpl_load1 hE 3 rfl rfl rfl rfl (by simp [go_sem]) rfl ?_) | (refine wpl_load1 hE 4 rfl rfl rfl rfl (by simp [go_sem]) rfl ?_) | (refine wpl_load1 hE 5 rfl rfl rfl rfl (by simp [go_sem]) rfl ?_)))
                refine wp_region_held_drew (S := (fun w' => ((Instr.loadAt 63 (.pointer (some ⟨b3, 1, none⟩))).run Try.prog w' = .ok (.slice ka keys.length kc) w') ∧ ((Instr.loadAt 63 (.pointer (some ⟨b3, 2, none⟩))).run Try.prog w' = .ok (.slice va vals.length vc) w') ∧ ((Instr.loadAt 64 (.pointer (some ⟨b3, 3, none⟩))).run Try.prog w' = .ok (.slice ia kids.length ic) w') ∧ ((Instr.loadAt 3 (.pointer (some ⟨b2, 1, none⟩))).run Try.prog w' = .ok (.int .i64 vw) w') ∧ ((Instr.loadAt 68 (.pointer (some ⟨b2, 0, none⟩))).run Try.prog w' = .ok (.agg [.int .i64 kw, .int .i64 vw].toArray) w'))) (by kernel_rfl) ⟨(atVm hE.drew (by repeat (first | exact List.Mem.head _ | refine List.Mem.tail _ ?_)) (by simp [go_sem]) rfl), (atVm hE.drew (by repeat (first | exact List.Mem.head _ | refine List.Mem.tail _ ?_)) (by simp [go_sem]) rfl), (atVm hE.drew (by repeat (first | exact List.Mem.head _ | refine List.Mem.tail _ ?_)) (by simp [go_sem]) rfl), (atVm hE.drew (by repeat (first | exact List.Mem.head _ | refine List.Mem.tail _ ?_)) (by simp [go_sem]) rfl), (atWm hE.drew (by repeat (first | exact List.Mem.head _ | refine List.Mem.tail _ ?_)) Try.isAgg68 Try.sizeOf68 rfl)⟩ (fun hS => ?_)
                refine takeW 0 ⟨some 65, .move (.tmp 6), 4, "node.go:75", #[], none⟩ ?_ (.inl ⟨by rfl, ?_⟩) hS ?_
                rotate_left
                · (intro w hSw; (try dsimp only at hSw); go_simp; (try with_reducible rfl))
                try simp only [Act.put, sb, s0, sz]
                refine takeW 1 ⟨some 66, .move (.tmp 65), 4, "node.go:75", #[⟨0, .data⟩], none⟩ ?_ (.inl ⟨by rfl, ?_⟩) hS ?_
                rotate_left
                · (intro w hSw; (try dsimp only at hSw); go_simp; (try with_reducible rfl))
                try simp only [Act.put, sb, s0, sz]
                refine takeW 2 ⟨some 67, .fieldAddr 70 (.tmp 3) 2, 0, "node.go:75", #[⟨1, .guard⟩], some (1, true)⟩ ?_ (.inl ⟨by rfl, ?_⟩) hS ?_
                rotate_left
                · (intro w hSw; (try dsimp only at hSw); go_simp; (try with_reducible rfl))
                try simp only [Act.put, sb, s0, sz]
                refine takeW 3 ⟨some 68, .load 63 (.tmp 67), 63, "node.go:75", #[⟨2, .data⟩, ⟨1, .guard⟩], some (1, true)⟩ ?_ (.inl ⟨by rfl, ?_⟩) hS ?_
                rotate_left
                · (intro w hSw; (try dsimp only at hSw); go_simp; (try with_reducible rfl))
                try simp only [Act.put, sb, s0, sz]
                refine takeW 4 ⟨some 69, .call { callee := .builtin .len, args := #[.tmp 68], argTypes := #[63] }, 3, "node.go:75", #[⟨3, .data⟩, ⟨1, .guard⟩], some (1, true)⟩ ?_ (.inl ⟨by rfl, ?_⟩) hS ?_
                rotate_left
                · (intro w hSw; (try dsimp only at hSw); go_simp; (try with_reducible rfl))
                try simp only [Act.put, sb, s0, sz]
                refine takeW 5 ⟨some 70, .binOp .eql 3 (.tmp 69) (.const (.int .i64 0)) 3, 4, "node.go:75", #[⟨4, .data⟩, ⟨1, .guard⟩], some (1, true)⟩ ?_ (.inl ⟨by rfl, ?_⟩) hS ?_
                rotate_left
                · (intro w hSw; (try dsimp only at hSw); go_simp; (try with_reducible rfl))
                try simp only [Act.put, sb, s0, sz]
                refine takeW 6 ⟨some 71, .pick (.tmp 66) (.tmp 70) (.const (.bool false)), 4, "node.go:75", #[⟨1, .data⟩, ⟨5, .data⟩], none⟩ ?_ (.inl ⟨by rfl, ?_⟩) hS ?_
                rotate_left
                · (intro w hSw; (try dsimp only at hSw); go_simp; (try with_reducible rfl))
                try simp only [Act.put, sb, s0, sz]
                refine takeW 7 ⟨some 72, .move (.tmp 71), 4, "node.go:75", #[⟨6, .data⟩, ⟨1, .chain⟩], none⟩ ?_ (.inl ⟨by rfl, ?_⟩) hS ?_
                rotate_left
                · (intro w hSw; (try dsimp only at hSw); go_simp; (try with_reducible rfl))
                try simp only [Act.put, sb, s0, sz]
                refine takeW 8 ⟨some 73, .fieldAddr 70 (.tmp 3) 3, 0, "node.go:75", #[⟨7, .guard⟩], some (7, true)⟩ ?_ (.inl ⟨by rfl, ?_⟩) hS ?_
                rotate_left
                · (intro w hSw; (try dsimp only at hSw); go_simp; (try with_reducible rfl))
                try simp only [Act.put, sb, s0, sz]
                refine takeW 9 ⟨some 74, .load 64 (.tmp 73), 64, "node.go:75", #[⟨8, .data⟩, ⟨7, .guard⟩], some (7, true)⟩ ?_ (.inl ⟨by rfl, ?_⟩) hS ?_
                rotate_left
                · (intro w hSw; (try dsimp only at hSw); go_simp; (try with_reducible rfl))
                try simp only [Act.put, sb, s0, sz]
                refine takeW 10 ⟨some 75, .call { callee := .builtin .len, args := #[.tmp 74], argTypes := #[64] }, 3, "node.go:75", #[⟨9, .data⟩, ⟨7, .guard⟩], some (7, true)⟩ ?_ (.inl ⟨by rfl, ?_⟩) hS ?_
                rotate_left
                · (intro w hSw; (try dsimp only at hSw); go_simp; (try with_reducible rfl))
                try simp only [Act.put, sb, s0, sz]
                refine takeW 11 ⟨some 76, .fieldAddr 70 (.tmp 3) 1, 0, "node.go:75", #[⟨7, .guard⟩], some (7, true)⟩ ?_ (.inl ⟨by rfl, ?_⟩) hS ?_
                rotate_left
                · (intro w hSw; (try dsimp only at hSw); go_simp; (try with_reducible rfl))
                try simp only [Act.put, sb, s0, sz]
                refine takeW 12 ⟨some 77, .load 63 (.tmp 76), 63, "node.go:75", #[⟨11, .data⟩, ⟨7, .guard⟩], some (7, true)⟩ ?_ (.inl ⟨by rfl, ?_⟩) hS ?_
                rotate_left
                · (intro w hSw; (try dsimp only at hSw); go_simp; (try with_reducible rfl))
                try simp only [Act.put, sb, s0, sz]
                refine takeW 13 ⟨some 78, .call { callee := .builtin .len, args := #[.tmp 77], argTypes := #[63] }, 3, "node.go:75", #[⟨12, .data⟩, ⟨7, .guard⟩], some (7, true)⟩ ?_ (.inl ⟨by rfl, ?_⟩) hS ?_
                rotate_left
                · (intro w hSw; (try dsimp only at hSw); go_simp; (try with_reducible rfl))
                try simp only [Act.put, sb, s0, sz]
                refine takeW 14 ⟨some 79, .binOp .add 3 (.tmp 78) (.const (.int .i64 1)) 3, 3, "node.go:75", #[⟨13, .data⟩, ⟨7, .guard⟩], some (7, true)⟩ ?_ (.inl ⟨by rfl, ?_⟩) hS ?_
                rotate_left
                · (intro w hSw; (try dsimp only at hSw); go_simp; (try with_reducible rfl))
                try simp only [Act.put, sb, s0, sz]
                refine takeW 15 ⟨some 80, .binOp .eql 3 (.tmp 75) (.tmp 79) 3, 4, "node.go:75", #[⟨10, .data⟩, ⟨14, .data⟩, ⟨7, .guard⟩], some (7, true)⟩ ?_ (.inl ⟨by rfl, ?_⟩) hS ?_
                rotate_left
                · (intro w hSw; (try dsimp only at hSw); go_simp; (try with_reducible rfl))
                try simp only [Act.put, sb, s0, sz]
                refine takeW 16 ⟨some 81, .pick (.tmp 72) (.tmp 80) (.const (.bool false)), 4, "node.go:75", #[⟨7, .data⟩, ⟨15, .data⟩], none⟩ ?_ (.inl ⟨by rfl, ?_⟩) hS ?_
                rotate_left
                · (intro w hSw; (try dsimp only at hSw); go_simp; (try with_reducible rfl))
                try simp only [Act.put, sb, s0, sz]
                refine takeW 17 ⟨some 82, .move (.tmp 81), 4, "node.go:75", #[⟨16, .data⟩, ⟨7, .chain⟩], none⟩ ?_ (.inl ⟨by rfl, ?_⟩) hS ?_
                rotate_left
                · (intro w hSw; (try dsimp only at hSw); go_simp; (try with_reducible rfl))
                try simp only [Act.put, sb, s0, sz]
                refine takeW 18 ⟨some 83, .fieldAddr 70 (.tmp 3) 1, 0, "node.go:75", #[⟨17, .guard⟩], some (17, true)⟩ ?_ (.inl ⟨by rfl, ?_⟩) hS ?_
                rotate_left
                · (intro w hSw; (try dsimp only at hSw); go_simp; (try with_reducible rfl))
                try simp only [Act.put, sb, s0, sz]
                refine takeW 19 ⟨some 84, .load 63 (.tmp 83), 63, "node.go:75", #[⟨18, .data⟩, ⟨17, .guard⟩], some (17, true)⟩ ?_ (.inl ⟨by rfl, ?_⟩) hS ?_
                rotate_left
                · (intro w hSw; (try dsimp only at hSw); go_simp; (try with_reducible rfl))
                try simp only [Act.put, sb, s0, sz]
                refine takeW 20 ⟨some 85, .call { callee := .builtin .len, args := #[.tmp 84], argTypes := #[63] }, 3, "node.go:75", #[⟨19, .data⟩, ⟨17, .guard⟩], some (17, true)⟩ ?_ (.inl ⟨by rfl, ?_⟩) hS ?_
                rotate_left
                · (intro w hSw; (try dsimp only at hSw); go_simp; (try with_reducible rfl))
                try simp only [Act.put, sb, s0, sz]
                refine takeW 21 ⟨some 86, .binOp .geq 3 (.tmp 85) (.const (.int .i64 1)) 3, 4, "node.go:75", #[⟨20, .data⟩, ⟨17, .guard⟩], some (17, true)⟩ ?_ (.inl ⟨by rfl, ?_⟩) hS ?_
                rotate_left
                · (intro w hSw; (try dsimp only at hSw); go_simp; (try with_reducible rfl))
                try simp only [Act.put, sb, s0, sz]
                refine takeW 22 ⟨some 87, .pick (.tmp 82) (.tmp 86) (.const (.bool false)), 4, "node.go:75", #[⟨17, .data⟩, ⟨21, .data⟩], none⟩ ?_ (.inl ⟨by rfl, ?_⟩) hS ?_
                rotate_left
                · (intro w hSw; (try dsimp only at hSw); go_simp; (try with_reducible rfl))
                try simp only [Act.put, sb, s0, sz]
                refine takeW 23 ⟨some 88, .move (.tmp 87), 4, "node.go:75", #[⟨22, .data⟩, ⟨17, .chain⟩], none⟩ ?_ (.inl ⟨by rfl, ?_⟩) hS ?_
                rotate_left
                · (intro w hSw; (try dsimp only at hSw); go_simp; (try with_reducible rfl))
                try simp only [Act.put, sb, s0, sz]
                refine takeW 24 ⟨some 89, .fieldAddr 70 (.tmp 3) 3, 0, "node.go:75", #[⟨23, .guard⟩], some (23, true)⟩ undef (.inr ⟨by rfl, rfl⟩) hS ?_; try simp only [Act.put, sb, s0, sz]
                refine takeW 25 ⟨some 90, .load 64 (.tmp 89), 64, "node.go:75", #[⟨24, .data⟩, ⟨23, .guard⟩], some (23, true)⟩ undef (.inr ⟨by rfl, rfl⟩) hS ?_; try simp only [Act.put, sb, s0, sz]
                refine takeW 26 ⟨some 91, .call { callee := .builtin .len, args := #[.tmp 90], argTypes := #[64] }, 3, "node.go:75", #[⟨25, .data⟩, ⟨23, .guard⟩], some (23, true)⟩ undef (.inr ⟨by rfl, rfl⟩) hS ?_; try simp only [Act.put, sb, s0, sz]
                refine takeW 27 ⟨some 92, .load 68 (.tmp 2), 68, "node.go:75", #[⟨23, .guard⟩], some (23, true)⟩ undef (.inr ⟨by rfl, rfl⟩) hS ?_; try simp only [Act.put, sb, s0, sz]
                refine takeW 28 ⟨some 93, .call { callee := .value (.func 31), args := #[.tmp 92], argTypes := #[68] }, 3, "node.go:75", #[⟨27, .data⟩, ⟨23, .chain⟩, ⟨23, .guard⟩], some (23, true)⟩ undef (.inr ⟨by rfl, rfl⟩) hS ?_; try simp only [Act.put, sb, s0, sz]
                refine takeW 29 ⟨some 94, .binOp .leq 3 (.tmp 91) (.tmp 93) 3, 4, "node.go:75", #[⟨26, .data⟩, ⟨28, .data⟩, ⟨23, .guard⟩], some (23, true)⟩ undef (.inr ⟨by rfl, rfl⟩) hS ?_; try simp only [Act.put, sb, s0, sz]
                refine takeW 30 ⟨some 95, .pick (.tmp 88) (.tmp 94) (.const (.bool false)), 4, "node.go:75", #[⟨23, .data⟩, ⟨29, .data⟩], none⟩ ?_ (.inl ⟨by rfl, ?_⟩) hS ?_
                rotate_left
                · (intro w hSw; (try dsimp only at hSw); go_simp; (try with_reducible rfl))
                try simp only [Act.put, sb, s0, sz]
                refine takeW 31 ⟨some 4, .assign (.tmp 95), 4, "node.go:75", #[⟨30, .data⟩, ⟨28, .chain⟩, ⟨0, .phase⟩, ⟨1, .phase⟩, ⟨2, .phase⟩, ⟨3, .phase⟩, ⟨4, .phase⟩, ⟨5, .phase⟩, ⟨6, .phase⟩, ⟨7, .phase⟩, ⟨8, .phase⟩, ⟨9, .phase⟩, ⟨10, .phase⟩, ⟨11, .phase⟩, ⟨12, .phase⟩, ⟨13, .phase⟩, ⟨14, .phase⟩, ⟨15, .phase⟩, ⟨16, .phase⟩, ⟨17, .phase⟩, ⟨18, .phase⟩, ⟨19, .phase⟩, ⟨20, .phase⟩, ⟨21, .phase⟩, ⟨22, .phase⟩, ⟨23, .phase⟩, ⟨24, .phase⟩, ⟨25, .phase⟩, ⟨26, .phase⟩, ⟨27, .phase⟩, ⟨28, .phase⟩, ⟨29, .phase⟩, ⟨30, .phase⟩], none⟩ ?_ (.inl ⟨by rfl, ?_⟩) hS ?_
                rotate_left
                · (intro w hSw; (try dsimp only at hSw); go_simp; (try with_reducible rfl))
                try simp only [Act.put, sb, s0, sz]
                refine wpAnyH_done (by kernel_rfl) ?_ _
                go_wp2
                go_ret
                exact ⟨_, rfl, by rw [Rz.out]; rfl, hE.drew.tail.tail⟩
              | true =>
                have Rz := SL.hid (show mb = decide ((kids.length : Int) ≤ fan) by rw [R.out, c0, c1, c2, c3]; rfl)
                go_wp2_with (first
                  | go_skip
                  | (go_at_call 104; have H := wideT_any (n := kw) (show keys.length ≤ 1000000 by omega) hE (hk.suf (by repeat (first | exact List.suffix_refl _ | refine List.IsSuffix.trans ?_ (List.suffix_cons _ _)))); rw [Hwd.out] at H; refine H.mono ?_; clear H hE; rintro e w2 ⟨v, rfl, rfl, hE⟩)
                  | (go_at_call 105; have H := everyI_any Try.call106 kidOk_any (show kids.length ≤ 1000000 by omega) hE (hi.suf (by repeat (first | exact List.suffix_refl _ | refine List.IsSuffix.trans ?_ (List.suffix_cons _ _)))); rw [Hko.out] at H; refine H.mono ?_; clear H hE; rintro e w2 ⟨v, rfl, rfl, hE⟩)
                  | ((with_reducible (show Go.wpList _ _ _ (Go.Oper.mk _ (.load _ _) _ _ _ _ :: _) _ _)); first | (refine wpl_load1 hE 0 rfl rfl rfl rfl (by simp [go_sem]) rfl ?_) | (refine wpl_load1 hE 1 rfl rfl rfl rfl (by simp [go_sem]) rfl ?_) | (refine wpl_load1 hE 2 rfl rfl rfl rfl (by simp [go_sem]) rfl ?_) | (refine wpl_load1 hE 3 rfl rfl rfl rfl (by simp [go_sem]) rfl ?_) | (refine wpl_load1 hE 4 rfl rfl rfl rfl (by simp [go_sem]) rfl ?_) | (refine wpl_load1 hE 5 rfl rfl rfl rfl (by simp [go_sem]) rfl ?_)))
                refine wp_region_held_drew (S := (fun w' => ((Instr.loadAt 63 (.pointer (some ⟨b3, 1, none⟩))).run Try.prog w' = .ok (.slice ka keys.length kc) w') ∧ ((Instr.loadAt 63 (.pointer (some ⟨b3, 2, none⟩))).run Try.prog w' = .ok (.slice va vals.length vc) w') ∧ ((Instr.loadAt 64 (.pointer (some ⟨b3, 3, none⟩))).run Try.prog w' = .ok (.slice ia kids.length ic) w') ∧ ((Instr.loadAt 3 (.pointer (some ⟨b2, 1, none⟩))).run Try.prog w' = .ok (.int .i64 vw) w') ∧ ((Instr.loadAt 68 (.pointer (some ⟨b2, 0, none⟩))).run Try.prog w' = .ok (.agg [.int .i64 kw, .int .i64 vw].toArray) w'))) (by kernel_rfl) ⟨(atVm hE.drew (by repeat (first | exact List.Mem.head _ | refine List.Mem.tail _ ?_)) (by simp [go_sem]) rfl), (atVm hE.drew (by repeat (first | exact List.Mem.head _ | refine List.Mem.tail _ ?_)) (by simp [go_sem]) rfl), (atVm hE.drew (by repeat (first | exact List.Mem.head _ | refine List.Mem.tail _ ?_)) (by simp [go_sem]) rfl), (atVm hE.drew (by repeat (first | exact List.Mem.head _ | refine List.Mem.tail _ ?_)) (by simp [go_sem]) rfl), (atWm hE.drew (by repeat (first | exact List.Mem.head _ | refine List.Mem.tail _ ?_)) Try.isAgg68 Try.sizeOf68 rfl)⟩ (fun hS => ?_)
                refine takeW 0 ⟨some 65, .move (.tmp 6), 4, "node.go:75", #[], none⟩ ?_ (.inl ⟨by rfl, ?_⟩) hS ?_
                rotate_left
                · (intro w hSw; (try dsimp only at hSw); go_simp; (try with_reducible rfl))
                try simp only [Act.put, sb, s0, sz]
                refine takeW 1 ⟨some 66, .move (.tmp 65), 4, "node.go:75", #[⟨0, .data⟩], none⟩ ?_ (.inl ⟨by rfl, ?_⟩) hS ?_
                rotate_left
                · (intro w hSw; (try dsimp only at hSw); go_simp; (try with_reducible rfl))
                try simp only [Act.put, sb, s0, sz]
                refine takeW 2 ⟨some 67, .fieldAddr 70 (.tmp 3) 2, 0, "node.go:75", #[⟨1, .guard⟩], some (1, true)⟩ ?_ (.inl ⟨by rfl, ?_⟩) hS ?_
                rotate_left
                · (intro w hSw; (try dsimp only at hSw); go_simp; (try with_reducible rfl))
                try simp only [Act.put, sb, s0, sz]
                refine takeW 3 ⟨some 68, .load 63 (.tmp 67), 63, "node.go:75", #[⟨2, .data⟩, ⟨1, .guard⟩], some (1, true)⟩ ?_ (.inl ⟨by rfl, ?_⟩) hS ?_
                rotate_left
                · (intro w hSw; (try dsimp only at hSw); go_simp; (try with_reducible rfl))
                try simp only [Act.put, sb, s0, sz]
                refine takeW 4 ⟨some 69, .call { callee := .builtin .len, args := #[.tmp 68], argTypes := #[63] }, 3, "node.go:75", #[⟨3, .data⟩, ⟨1, .guard⟩], some (1, true)⟩ ?_ (.inl ⟨by rfl, ?_⟩) hS ?_
                rotate_left
                · (intro w hSw; (try dsimp only at hSw); go_simp; (try with_reducible rfl))
                try simp only [Act.put, sb, s0, sz]
                refine takeW 5 ⟨some 70, .binOp .eql 3 (.tmp 69) (.const (.int .i64 0)) 3, 4, "node.go:75", #[⟨4, .data⟩, ⟨1, .guard⟩], some (1, true)⟩ ?_ (.inl ⟨by rfl, ?_⟩) hS ?_
                rotate_left
                · (intro w hSw; (try dsimp only at hSw); go_simp; (try with_reducible rfl))
                try simp only [Act.put, sb, s0, sz]
                refine takeW 6 ⟨some 71, .pick (.tmp 66) (.tmp 70) (.const (.bool false)), 4, "node.go:75", #[⟨1, .data⟩, ⟨5, .data⟩], none⟩ ?_ (.inl ⟨by rfl, ?_⟩) hS ?_
                rotate_left
                · (intro w hSw; (try dsimp only at hSw); go_simp; (try with_reducible rfl))
                try simp only [Act.put, sb, s0, sz]
                refine takeW 7 ⟨some 72, .move (.tmp 71), 4, "node.go:75", #[⟨6, .data⟩, ⟨1, .chain⟩], none⟩ ?_ (.inl ⟨by rfl, ?_⟩) hS ?_
                rotate_left
                · (intro w hSw; (try dsimp only at hSw); go_simp; (try with_reducible rfl))
                try simp only [Act.put, sb, s0, sz]
                refine takeW 8 ⟨some 73, .fieldAddr 70 (.tmp 3) 3, 0, "node.go:75", #[⟨7, .guard⟩], some (7, true)⟩ ?_ (.inl ⟨by rfl, ?_⟩) hS ?_
                rotate_left
                · (intro w hSw; (try dsimp only at hSw); go_simp; (try with_reducible rfl))
                try simp only [Act.put, sb, s0, sz]
                refine takeW 9 ⟨some 74, .load 64 (.tmp 73), 64, "node.go:75", #[⟨8, .data⟩, ⟨7, .guard⟩], some (7, true)⟩ ?_ (.inl ⟨by rfl, ?_⟩) hS ?_
                rotate_left
                · (intro w hSw; (try dsimp only at hSw); go_simp; (try with_reducible rfl))
                try simp only [Act.put, sb, s0, sz]
                refine takeW 10 ⟨some 75, .call { callee := .builtin .len, args := #[.tmp 74], argTypes := #[64] }, 3, "node.go:75", #[⟨9, .data⟩, ⟨7, .guard⟩], some (7, true)⟩ ?_ (.inl ⟨by rfl, ?_⟩) hS ?_
                rotate_left
                · (intro w hSw; (try dsimp only at hSw); go_simp; (try with_reducible rfl))
                try simp only [Act.put, sb, s0, sz]
                refine takeW 11 ⟨some 76, .fieldAddr 70 (.tmp 3) 1, 0, "node.go:75", #[⟨7, .guard⟩], some (7, true)⟩ ?_ (.inl ⟨by rfl, ?_⟩) hS ?_
                rotate_left
                · (intro w hSw; (try dsimp only at hSw); go_simp; (try with_reducible rfl))
                try simp only [Act.put, sb, s0, sz]
                refine takeW 12 ⟨some 77, .load 63 (.tmp 76), 63, "node.go:75", #[⟨11, .data⟩, ⟨7, .guard⟩], some (7, true)⟩ ?_ (.inl ⟨by rfl, ?_⟩) hS ?_
                rotate_left
                · (intro w hSw; (try dsimp only at hSw); go_simp; (try with_reducible rfl))
                try simp only [Act.put, sb, s0, sz]
                refine takeW 13 ⟨some 78, .call { callee := .builtin .len, args := #[.tmp 77], argTypes := #[63] }, 3, "node.go:75", #[⟨12, .data⟩, ⟨7, .guard⟩], some (7, true)⟩ ?_ (.inl ⟨by rfl, ?_⟩) hS ?_
                rotate_left
                · (intro w hSw; (try dsimp only at hSw); go_simp; (try with_reducible rfl))
                try simp only [Act.put, sb, s0, sz]
                refine takeW 14 ⟨some 79, .binOp .add 3 (.tmp 78) (.const (.int .i64 1)) 3, 3, "node.go:75", #[⟨13, .data⟩, ⟨7, .guard⟩], some (7, true)⟩ ?_ (.inl ⟨by rfl, ?_⟩) hS ?_
                rotate_left
                · (intro w hSw; (try dsimp only at hSw); go_simp; (try with_reducible rfl))
                try simp only [Act.put, sb, s0, sz]
                refine takeW 15 ⟨some 80, .binOp .eql 3 (.tmp 75) (.tmp 79) 3, 4, "node.go:75", #[⟨10, .data⟩, ⟨14, .data⟩, ⟨7, .guard⟩], some (7, true)⟩ ?_ (.inl ⟨by rfl, ?_⟩) hS ?_
                rotate_left
                · (intro w hSw; (try dsimp only at hSw); go_simp; (try with_reducible rfl))
                try simp only [Act.put, sb, s0, sz]
                refine takeW 16 ⟨some 81, .pick (.tmp 72) (.tmp 80) (.const (.bool false)), 4, "node.go:75", #[⟨7, .data⟩, ⟨15, .data⟩], none⟩ ?_ (.inl ⟨by rfl, ?_⟩) hS ?_
                rotate_left
                · (intro w hSw; (try dsimp only at hSw); go_simp; (try with_reducible rfl))
                try simp only [Act.put, sb, s0, sz]
                refine takeW 17 ⟨some 82, .move (.tmp 81), 4, "node.go:75", #[⟨16, .data⟩, ⟨7, .chain⟩], none⟩ ?_ (.inl ⟨by rfl, ?_⟩) hS ?_
                rotate_left
                · (intro w hSw; (try dsimp only at hSw); go_simp; (try with_reducible rfl))
                try simp only [Act.put, sb, s0, sz]
                refine takeW 18 ⟨some 83, .fieldAddr 70 (.tmp 3) 1, 0, "node.go:75", #[⟨17, .guard⟩], some (17, true)⟩ ?_ (.inl ⟨by rfl, ?_⟩) hS ?_
                rotate_left
                · (intro w hSw; (try dsimp only at hSw); go_simp; (try with_reducible rfl))
                try simp only [Act.put, sb, s0, sz]
                refine takeW 19 ⟨some 84, .load 63 (.tmp 83), 63, "node.go:75", #[⟨18, .data⟩, ⟨17, .guard⟩], some (17, true)⟩ ?_ (.inl ⟨by rfl, ?_⟩) hS ?_
                rotate_left
                · (intro w hSw; (try dsimp only at hSw); go_simp; (try with_reducible rfl))
                try simp only [Act.put, sb, s0, sz]
                refine takeW 20 ⟨some 85, .call { callee := .builtin .len, args := #[.tmp 84], argTypes := #[63] }, 3, "node.go:75", #[⟨19, .data⟩, ⟨17, .guard⟩], some (17, true)⟩ ?_ (.inl ⟨by rfl, ?_⟩) hS ?_
                rotate_left
                · (intro w hSw; (try dsimp only at hSw); go_simp; (try with_reducible rfl))
                try simp only [Act.put, sb, s0, sz]
                refine takeW 21 ⟨some 86, .binOp .geq 3 (.tmp 85) (.const (.int .i64 1)) 3, 4, "node.go:75", #[⟨20, .data⟩, ⟨17, .guard⟩], some (17, true)⟩ ?_ (.inl ⟨by rfl, ?_⟩) hS ?_
                rotate_left
                · (intro w hSw; (try dsimp only at hSw); go_simp; (try with_reducible rfl))
                try simp only [Act.put, sb, s0, sz]
                refine takeW 22 ⟨some 87, .pick (.tmp 82) (.tmp 86) (.const (.bool false)), 4, "node.go:75", #[⟨17, .data⟩, ⟨21, .data⟩], none⟩ ?_ (.inl ⟨by rfl, ?_⟩) hS ?_
                rotate_left
                · (intro w hSw; (try dsimp only at hSw); go_simp; (try with_reducible rfl))
                try simp only [Act.put, sb, s0, sz]
                refine takeW 23 ⟨some 88, .move (.tmp 87), 4, "node.go:75", #[⟨22, .data⟩, ⟨17, .chain⟩], none⟩ ?_ (.inl ⟨by rfl, ?_⟩) hS ?_
                rotate_left
                · (intro w hSw; (try dsimp only at hSw); go_simp; (try with_reducible rfl))
                try simp only [Act.put, sb, s0, sz]
                refine takeW 24 ⟨some 89, .fieldAddr 70 (.tmp 3) 3, 0, "node.go:75", #[⟨23, .guard⟩], some (23, true)⟩ ?_ (.inl ⟨by rfl, ?_⟩) hS ?_
                rotate_left
                · (intro w hSw; (try dsimp only at hSw); go_simp; (try with_reducible rfl))
                try simp only [Act.put, sb, s0, sz]
                refine takeW 25 ⟨some 90, .load 64 (.tmp 89), 64, "node.go:75", #[⟨24, .data⟩, ⟨23, .guard⟩], some (23, true)⟩ ?_ (.inl ⟨by rfl, ?_⟩) hS ?_
                rotate_left
                · (intro w hSw; (try dsimp only at hSw); go_simp; (try with_reducible rfl))
                try simp only [Act.put, sb, s0, sz]
                refine takeW 26 ⟨some 91, .call { callee := .builtin .len, args := #[.tmp 90], argTypes := #[64] }, 3, "node.go:75", #[⟨25, .data⟩, ⟨23, .guard⟩], some (23, true)⟩ ?_ (.inl ⟨by rfl, ?_⟩) hS ?_
                rotate_left
                · (intro w hSw; (try dsimp only at hSw); go_simp; (try with_reducible rfl))
                try simp only [Act.put, sb, s0, sz]
                refine takeW 27 ⟨some 92, .load 68 (.tmp 2), 68, "node.go:75", #[⟨23, .guard⟩], some (23, true)⟩ ?_ (.inl ⟨by rfl, ?_⟩) hS ?_
                rotate_left
                · (intro w hSw; (try dsimp only at hSw); go_simp; (try with_reducible rfl))
                try simp only [Act.put, sb, s0, sz]
                refine wpAnyH_ready (rs := [28]) (by kernel_rfl) (by simp) ?_
                refine (AllReadyH.cons (o := { dst := some 93, op := Go.Op.call { callee := Go.Callee.value (Go.Operand.func 31), args := #[Go.Operand.tmp 92], argTypes := #[68] }, type := 3, pos := "node.go:75", after := #[{ on := 27, ground := Go.Ground.data }, { on := 23, ground := Go.Ground.chain }, { on := 23, ground := Go.Ground.guard }], guard := some (23, true) }) rfl (fun K hK => ?_) AllReadyH.nil)
                (go_simp; refine (hC hE.drew).mono ?_; clear hC; rintro e w3 ⟨v, rfl, rfl, hE3⟩)
                refine hK.out _ _ ⟨(atVm hE3 (by repeat (first | exact List.Mem.head _ | refine List.Mem.tail _ ?_)) (by simp [go_sem]) rfl), (atVm hE3 (by repeat (first | exact List.Mem.head _ | refine List.Mem.tail _ ?_)) (by simp [go_sem]) rfl), (atVm hE3 (by repeat (first | exact List.Mem.head _ | refine List.Mem.tail _ ?_)) (by simp [go_sem]) rfl), (atVm hE3 (by repeat (first | exact List.Mem.head _ | refine List.Mem.tail _ ?_)) (by simp [go_sem]) rfl), (atWm hE3 (by repeat (first | exact List.Mem.head _ | refine List.Mem.tail _ ?_)) Try.isAgg68 Try.sizeOf68 rfl)⟩ (fun hS => ?_)
                clear hK K
                try simp only [Act.put, sb, s0, sz]
                refine takeW 29 ⟨some 94, .binOp .leq 3 (.tmp 91) (.tmp 93) 3, 4, "node.go:75", #[⟨26, .data⟩, ⟨28, .data⟩, ⟨23, .guard⟩], some (23, true)⟩ ?_ (.inl ⟨by rfl, ?_⟩) hS ?_
                rotate_left
                · (intro w hSw; (try dsimp only at hSw); go_simp; (try with_reducible rfl))
                try simp only [Act.put, sb, s0, sz]
                refine takeW 30 ⟨some 95, .pick (.tmp 88) (.tmp 94) (.const (.bool false)), 4, "node.go:75", #[⟨23, .data⟩, ⟨29, .data⟩], none⟩ ?_ (.inl ⟨by rfl, ?_⟩) hS ?_
                rotate_left
                · (intro w hSw; (try dsimp only at hSw); go_simp; (try with_reducible rfl))
                try simp only [Act.put, sb, s0, sz]
                refine takeW 31 ⟨some 4, .assign (.tmp 95), 4, "node.go:75", #[⟨30, .data⟩, ⟨28, .chain⟩, ⟨0, .phase⟩, ⟨1, .phase⟩, ⟨2, .phase⟩, ⟨3, .phase⟩, ⟨4, .phase⟩, ⟨5, .phase⟩, ⟨6, .phase⟩, ⟨7, .phase⟩, ⟨8, .phase⟩, ⟨9, .phase⟩, ⟨10, .phase⟩, ⟨11, .phase⟩, ⟨12, .phase⟩, ⟨13, .phase⟩, ⟨14, .phase⟩, ⟨15, .phase⟩, ⟨16, .phase⟩, ⟨17, .phase⟩, ⟨18, .phase⟩, ⟨19, .phase⟩, ⟨20, .phase⟩, ⟨21, .phase⟩, ⟨22, .phase⟩, ⟨23, .phase⟩, ⟨24, .phase⟩, ⟨25, .phase⟩, ⟨26, .phase⟩, ⟨27, .phase⟩, ⟨28, .phase⟩, ⟨29, .phase⟩, ⟨30, .phase⟩], none⟩ ?_ (.inl ⟨by rfl, ?_⟩) hS ?_
                rotate_left
                · (intro w hSw; (try dsimp only at hSw); go_simp; (try with_reducible rfl))
                try simp only [Act.put, sb, s0, sz]
                refine wpAnyH_done (by kernel_rfl) ?_ _
                go_wp2
                go_ret
                exact ⟨_, rfl, by rw [Rz.out]; rfl, hE3.tail.tail⟩

theorem mayB_any {kw vw : Int} {leaf : Bool} {keys vals : List (List UInt8)} {kids : List Int} {ka va ia : Option Addr} {kc vc ic : Nat} (bk : keys.length ≤ 100000) (bv : vals.length ≤ 100000) (bi : kids.length ≤ 100000) {l : List HProp} {w : World} (hE : Ent l w) (hk : Knows l (reads (.slice ka keys.length kc) keys.length (keys.map strv))) (hv : Knows l (reads (.slice va vals.length vc) vals.length (vals.map strv))) (hi : Knows l (reads (.slice ia kids.length ic) kids.length (kids.map intv))) :
    Calls Try.prog 70 #[.agg #[.int .i64 kw, .int .i64 vw], .agg #[.bool leaf, .slice ka keys.length kc, .slice va vals.length vc, .slice ia kids.length ic]] w (Ret fun v w' => v = .bool (mayB kw vw ⟨leaf, keys, vals, kids⟩) ∧ Ent l w') := by
  cases leaf with
  | true => exact may_true bk bv bi hE hk hv hi
  | false => exact may_false bk bv bi hE hk hv hi
end Go.Proofs.Ytohdljcpaogokaa
