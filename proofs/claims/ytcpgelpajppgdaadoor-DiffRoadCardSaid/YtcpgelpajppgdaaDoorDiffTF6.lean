/-
  The program's may. (Printed by gen_dqn.py.)
-/
import Derived.Test.YtcpgelpajppgdaaDoorDiffTF5
namespace Go.Proofs.YtcpgelpajppgdaaDoor
open Go.RowKit Go.SL

set_option maxRecDepth 100000 in
set_option maxHeartbeats 16000000 in
attribute [-go_sem] Instr.loadAt Go.run_equalIn_agg in
theorem may_any {es : List Ch} (hn : es.length ≤ 100000) (hp : ∀ x ∈ es, x.path.length ≤ 100000) {ao : Option Addr} {c : Nat} {l : List HProp} {w : World} (hk : Knows l (reads (.slice ao es.length c) es.length (es.flatMap chC))) (hE : Ent l w) :
    Calls Tryd.prog 42 #[.slice ao es.length c] w (Ret (MPost es l)) := by
  have Hp := SL.hid hp
  clear hp
  go_enter Tryd.func42, Tryd.ntmps42
  go_wp2
  go_loopw [9] (fun i wr => MyRel es l i wr) (fun i _ => es.length - (intOf i).toNat)
  case atStart => exact ⟨0, Nat.zero_le _, rfl, by simpa using mayR_nil, hE⟩
  case round =>
    clear hE
    obtain ⟨k, hkl, rfl, hpre, hE⟩ := hrel
    by_cases hlt : k < es.length
    · obtain ⟨b, off, rfl, hz⟩ := ch_at (hk _ hE) hlt
      clear hz
      have hld := (load_dc (hk _ hE) hlt).1
      have Hst := SL.hid (mayR_at hlt hpre)
      have hxl := Hp.out es[k] (List.getElem_mem hlt)
      obtain ⟨x, hx⟩ : ∃ x, es[k] = x := ⟨_, rfl⟩
      have HX := SL.hid hx
      rw [hx] at hld Hst hxl
      clear hx hpre
      obtain ⟨xp, ⟨qt, qd, qb⟩, ⟨ut, ud, ub⟩⟩ := x
      simp only [chC] at hld
      simp only at hxl
      have hg : goodC ⟨xp, ⟨qt, qd, qb⟩, ⟨ut, ud, ub⟩⟩ = (splitE xp == 0 && (!(splitL xp).isEmpty && (!((⟨qt, qd, qb⟩ : Sd) == ⟨ut, ud, ub⟩) && (maySd ⟨qt, qd, qb⟩ && maySd ⟨ut, ud, ub⟩)))) := rfl
      have HA := SL.hid (fun (L : List HProp) (w : World) (h : Ent L w) => side_may_any ⟨qt, qd, qb⟩ h)
      have HB := SL.hid (fun (L : List HProp) (w : World) (h : Ent L w) => side_may_any ⟨ut, ud, ub⟩ h)
      have hEq := fun w => eqSd 9998 ⟨qt, qd, qb⟩ ⟨ut, ud, ub⟩ w
      have HS := SL.hid (fun (L : List HProp) (w : World) (h : Ent L w) => Split_any (p := xp) (by omega) h)
      have HO := SL.hid (fun (L : List HProp) (w : World) (q : List UInt8) (hq : q.length ≤ 100000) (h : Ent L w) => Order_any (p := q) (q := xp) hq hxl h)
      simp only [sdV] at HA HB
      simp only [sdC] at hEq
      obtain ⟨lp, hlp⟩ : ∃ lp, splitL xp = lp := ⟨_, rfl⟩
      obtain ⟨er, her⟩ : ∃ er, splitE xp = er := ⟨_, rfl⟩
      rw [hlp] at HS hg
      rw [her] at HS hg
      clear hlp her hxl
      rw [show lp.isEmpty = decide (lp.length = 0) by cases lp <;> simp] at hg
      obtain ⟨n, hln⟩ : ∃ n, lp.length = n := ⟨_, rfl⟩
      rw [hln] at HS hg
      clear hln
      generalize ((⟨qt, qd, qb⟩ : Sd) == ⟨ut, ud, ub⟩) = eq at *
      generalize maySd ⟨qt, qd, qb⟩ = m1 at *
      generalize maySd ⟨ut, ud, ub⟩ = m2 at *
      generalize goodC ⟨xp, ⟨qt, qd, qb⟩, ⟨ut, ud, ub⟩⟩ = g at *
      have Hg := SL.hid hg
      clear hg
      go_wp2_with (first
        | go_skip
        | ((with_reducible (show Go.wpList _ _ _ (Go.Oper.mk _ (.alloc _) _ _ _ _ :: _) _ _)); clear hld; refine wpl_alloc hE rfl rfl (by simp [go_sem]; rfl) ?_; clear hE; intro b4 w hE; simp only [Act.eval, Act.put, List.setIfInBounds_toArray, List.set_cons_zero, List.set_cons_succ, getD_lit, List.getD_cons_succ, List.getD_cons_zero, Value.cells] at hE)
        | ((with_reducible (show Go.wpList _ _ _ (Go.Oper.mk _ (.store 65 _ _) _ _ _ _ :: _) _ _)); (first | (refine wpl_storeW hE 0 rfl rfl rfl (xs := [.string ⟨xp.toArray⟩, .bool qt, .bool qd, .string ⟨qb.toArray⟩, .bool ut, .bool ud, .string ⟨ub.toArray⟩]) rfl rfl Tryd.sizeOf65 rfl (by simp [Value.oneCell']) rfl ?_) | (refine wpl_storeW hE 1 rfl rfl rfl (xs := [.string ⟨xp.toArray⟩, .bool qt, .bool qd, .string ⟨qb.toArray⟩, .bool ut, .bool ud, .string ⟨ub.toArray⟩]) rfl rfl Tryd.sizeOf65 rfl (by simp [Value.oneCell']) rfl ?_) | (refine wpl_storeW hE 2 rfl rfl rfl (xs := [.string ⟨xp.toArray⟩, .bool qt, .bool qd, .string ⟨qb.toArray⟩, .bool ut, .bool ud, .string ⟨ub.toArray⟩]) rfl rfl Tryd.sizeOf65 rfl (by simp [Value.oneCell']) rfl ?_) | (refine wpl_storeW hE 3 rfl rfl rfl (xs := [.string ⟨xp.toArray⟩, .bool qt, .bool qd, .string ⟨qb.toArray⟩, .bool ut, .bool ud, .string ⟨ub.toArray⟩]) rfl rfl Tryd.sizeOf65 rfl (by simp [Value.oneCell']) rfl ?_) | (refine wpl_storeW hE 4 rfl rfl rfl (xs := [.string ⟨xp.toArray⟩, .bool qt, .bool qd, .string ⟨qb.toArray⟩, .bool ut, .bool ud, .string ⟨ub.toArray⟩]) rfl rfl Tryd.sizeOf65 rfl (by simp [Value.oneCell']) rfl ?_) | (refine wpl_storeW hE 5 rfl rfl rfl (xs := [.string ⟨xp.toArray⟩, .bool qt, .bool qd, .string ⟨qb.toArray⟩, .bool ut, .bool ud, .string ⟨ub.toArray⟩]) rfl rfl Tryd.sizeOf65 rfl (by simp [Value.oneCell']) rfl ?_) | (refine wpl_storeW hE 6 rfl rfl rfl (xs := [.string ⟨xp.toArray⟩, .bool qt, .bool qd, .string ⟨qb.toArray⟩, .bool ut, .bool ud, .string ⟨ub.toArray⟩]) rfl rfl Tryd.sizeOf65 rfl (by simp [Value.oneCell']) rfl ?_) | (refine wpl_storeW hE 7 rfl rfl rfl (xs := [.string ⟨xp.toArray⟩, .bool qt, .bool qd, .string ⟨qb.toArray⟩, .bool ut, .bool ud, .string ⟨ub.toArray⟩]) rfl rfl Tryd.sizeOf65 rfl (by simp [Value.oneCell']) rfl ?_)); clear hE; intro w hE; simp only [List.set_cons_zero, List.set_cons_succ] at hE)
        | ((with_reducible (show Go.wpList _ _ _ (Go.Oper.mk _ (.load _ _) _ _ _ _ :: _) _ _)); (first | (refine wpl_load1 hE 0 rfl rfl rfl rfl (by simp [go_sem]) rfl ?_) | (refine wpl_load1 hE 1 rfl rfl rfl rfl (by simp [go_sem]) rfl ?_) | (refine wpl_load1 hE 2 rfl rfl rfl rfl (by simp [go_sem]) rfl ?_) | (refine wpl_load1 hE 3 rfl rfl rfl rfl (by simp [go_sem]) rfl ?_) | (refine wpl_load1 hE 4 rfl rfl rfl rfl (by simp [go_sem]) rfl ?_) | (refine wpl_load1 hE 5 rfl rfl rfl rfl (by simp [go_sem]) rfl ?_) | (refine wpl_load1 hE 6 rfl rfl rfl rfl (by simp [go_sem]) rfl ?_) | (refine wpl_load1 hE 7 rfl rfl rfl rfl (by simp [go_sem]) rfl ?_)))
        | (go_at_call 36; refine (HS.out _ _ hE).mono ?_; clear hE; rintro e w2 ⟨v, h1, a1, c1, h2, hE⟩; cases h1; cases h2))
      have FB := SL.hid (show ∀ w, Ent (pt b4 (.cells #[.string ⟨xp.toArray⟩, .bool qt, .bool qd, .string ⟨qb.toArray⟩, .bool ut, .bool ud, .string ⟨ub.toArray⟩] 65) :: l) w →
          (Instr.loadAt 9 (.pointer (some ⟨b4, 0, none⟩))).run Tryd.prog w = .ok (.string ⟨xp.toArray⟩) w ∧ (Instr.loadAt 36 (.pointer (some ⟨b4, 1, none⟩))).run Tryd.prog w = .ok (.agg #[.bool qt, .bool qd, .string ⟨qb.toArray⟩]) w ∧ (Instr.loadAt 36 (.pointer (some ⟨b4, 4, none⟩))).run Tryd.prog w = .ok (.agg #[.bool ut, .bool ud, .string ⟨ub.toArray⟩]) w from fun w h =>
        ⟨run_load1 h 0 rfl (by simp [go_sem]) rfl, run_loadA h 0 rfl Tryd.isAgg36 Tryd.sizeOf36 (vs := [.bool qt, .bool qd, .string ⟨qb.toArray⟩]) rfl (fun j hj => by match j, hj with | 0, _ => rfl | 1, _ => rfl | 2, _ => rfl), run_loadA h 0 rfl Tryd.isAgg36 Tryd.sizeOf36 (vs := [.bool ut, .bool ud, .string ⟨ub.toArray⟩]) rfl (fun j hj => by match j, hj with | 0, _ => rfl | 1, _ => rfl | 2, _ => rfl)⟩)
      cases hne : (er != 0)
      case' true =>
        have Hb := SL.hid (show g = false by rw [Hg.out]; have he : (er == 0) = false := by simpa using hne
                                             rw [he, Bool.false_and])
        have hO := hE.drew
        refine wp_region_held_drew (S := (fun w' => ((Instr.loadAt 9 (.pointer (some ⟨b4, 0, none⟩))).run Tryd.prog w' = .ok (.string ⟨xp.toArray⟩) w') ∧ ((Instr.loadAt 36 (.pointer (some ⟨b4, 1, none⟩))).run Tryd.prog w' = .ok (.agg #[.bool qt, .bool qd, .string ⟨qb.toArray⟩]) w') ∧ ((Instr.loadAt 36 (.pointer (some ⟨b4, 4, none⟩))).run Tryd.prog w' = .ok (.agg #[.bool ut, .bool ud, .string ⟨ub.toArray⟩]) w'))) (by kernel_rfl) ⟨(FB.out _ (hO.suf sfx)).1, (FB.out _ (hO.suf sfx)).2.1, (FB.out _ (hO.suf sfx)).2.2⟩ (fun hS => ?_)
        refine tV 0 ⟨some 20, .move (.tmp 6), _, _, _, none⟩ hS ?_
        refine tV 1 ⟨some 21, .binOp .neq 44 (.tmp 20) (.const (.int .i64 0)) 44, _, _, _, none⟩ hS ?_
        refine tV 2 ⟨some 22, .move (.tmp 21), _, _, _, none⟩ hS ?_
        refine tU 3 ⟨some 23, .move (.tmp 5), _, _, _, some (2, false)⟩ hS ?_
        refine tU 4 ⟨some 24, .call { callee := .builtin .len, args := #[.tmp 23], argTypes := #[75] }, _, _, _, some (2, false)⟩ hS ?_
        refine tU 5 ⟨some 25, .binOp .eql 3 (.tmp 24) (.const (.int .i64 0)) 3, _, _, _, some (2, false)⟩ hS ?_
        refine tV 6 ⟨some 26, .pick (.tmp 22) (.const (.bool true)) (.tmp 25), _, _, _, none⟩ hS ?_
        refine tV 7 ⟨some 27, .move (.tmp 26), _, _, _, none⟩ hS ?_
        refine tU 8 ⟨some 28, .move (.tmp 3), _, _, _, some (7, false)⟩ hS ?_
        refine tU 9 ⟨some 29, .binOp .gtr 3 (.tmp 28) (.const (.int .i64 0)) 3, _, _, _, some (7, false)⟩ hS ?_
        refine tU 10 ⟨some 30, .move (.tmp 29), _, _, _, some (7, false)⟩ hS ?_
        refine tU 11 ⟨some 31, .move (.tmp 0), _, _, _, some (10, true)⟩ hS ?_
        refine tU 12 ⟨some 32, .move (.tmp 3), _, _, _, some (10, true)⟩ hS ?_
        refine tU 13 ⟨some 33, .binOp .sub 3 (.tmp 32) (.const (.int .i64 1)) 3, _, _, _, some (10, true)⟩ hS ?_
        refine tU 14 ⟨some 34, .indexAddr 30 (.tmp 31) (.tmp 33), _, _, _, some (10, true)⟩ hS ?_
        refine tU 15 ⟨some 35, .fieldAddr 65 (.tmp 34) 0, _, _, _, some (10, true)⟩ hS ?_
        refine tU 16 ⟨some 36, .load 9 (.tmp 35), _, _, _, some (10, true)⟩ hS ?_
        refine tU 17 ⟨some 37, .fieldAddr 65 (.tmp 4) 0, _, _, _, some (10, true)⟩ hS ?_
        refine tU 18 ⟨some 38, .load 9 (.tmp 37), _, _, _, some (10, true)⟩ hS ?_
        refine tU 19 ⟨some 39, .call { callee := .value (.func 17), args := #[.tmp 36, .tmp 38], argTypes := #[9, 9] }, _, _, _, some (10, true)⟩ hS ?_
        refine tU 20 ⟨some 40, .binOp .geq 3 (.tmp 39) (.const (.int .i64 0)) 3, _, _, _, some (10, true)⟩ hS ?_
        refine tU 21 ⟨some 41, .pick (.tmp 30) (.tmp 40) (.const (.bool false)), _, _, _, some (7, false)⟩ hS ?_
        refine tV 22 ⟨some 42, .pick (.tmp 27) (.const (.bool true)) (.tmp 41), _, _, _, none⟩ hS ?_
        refine tV 23 ⟨some 43, .move (.tmp 42), _, _, _, none⟩ hS ?_
        refine tU 24 ⟨some 44, .fieldAddr 65 (.tmp 4) 1, _, _, _, some (23, false)⟩ hS ?_
        refine tU 25 ⟨some 45, .load 36 (.tmp 44), _, _, _, some (23, false)⟩ hS ?_
        refine tU 26 ⟨some 46, .fieldAddr 65 (.tmp 4) 2, _, _, _, some (23, false)⟩ hS ?_
        refine tU 27 ⟨some 47, .load 36 (.tmp 46), _, _, _, some (23, false)⟩ hS ?_
        refine tU 28 ⟨some 48, .binOp .eql 36 (.tmp 45) (.tmp 47) 36, _, _, _, some (23, false)⟩ hS ?_
        refine tV 29 ⟨some 49, .pick (.tmp 43) (.const (.bool true)) (.tmp 48), _, _, _, none⟩ hS ?_
        refine tV 30 ⟨some 50, .move (.tmp 49), _, _, _, none⟩ hS ?_
        refine tU 31 ⟨some 51, .fieldAddr 65 (.tmp 4) 1, _, _, _, some (30, false)⟩ hS ?_
        refine tU 32 ⟨some 52, .load 36 (.tmp 51), _, _, _, some (30, false)⟩ hS ?_
        refine tU 33 ⟨some 53, .call { callee := .value (.func 63), args := #[.tmp 52], argTypes := #[36] }, _, _, _, some (30, false)⟩ hS ?_
        refine tU 34 ⟨some 54, .unOp Go.UnOp.not 4 (.tmp 53), _, _, _, some (30, false)⟩ hS ?_
        refine tV 35 ⟨some 55, .pick (.tmp 50) (.const (.bool true)) (.tmp 54), _, _, _, none⟩ hS ?_
        refine tV 36 ⟨some 56, .move (.tmp 55), _, _, _, none⟩ hS ?_
        refine tU 37 ⟨some 57, .fieldAddr 65 (.tmp 4) 2, _, _, _, some (36, false)⟩ hS ?_
        refine tU 38 ⟨some 58, .load 36 (.tmp 57), _, _, _, some (36, false)⟩ hS ?_
        refine tU 39 ⟨some 59, .call { callee := .value (.func 63), args := #[.tmp 58], argTypes := #[36] }, _, _, _, some (36, false)⟩ hS ?_
        refine tU 40 ⟨some 60, .unOp Go.UnOp.not 4 (.tmp 59), _, _, _, some (36, false)⟩ hS ?_
        refine tV 41 ⟨some 61, .pick (.tmp 56) (.const (.bool true)) (.tmp 60), _, _, _, none⟩ hS ?_
        refine wpAnyH_done (by kernel_rfl) ?_ _
        all_goals
          clear hS hE
          have hE := hO.tail.tail
          clear hO
          go_wp2
          refine bodyPost_ret (results_tmp rfl _ _ _) rfl ?_
          exact ⟨_, rfl, .mk false hE (iff_of_false (by decide) (fun h => by have := (Hst.out.2 h).1; rw [Hb.out] at this; cases this))⟩
      obtain rfl : er = 0 := by simpa using hne
      clear hne
      cases n
      case' zero =>
        have Hb := SL.hid (show g = false by rw [Hg.out]; simp)
        have hO := hE.drew
        refine wp_region_held_drew (S := (fun w' => ((Instr.loadAt 9 (.pointer (some ⟨b4, 0, none⟩))).run Tryd.prog w' = .ok (.string ⟨xp.toArray⟩) w') ∧ ((Instr.loadAt 36 (.pointer (some ⟨b4, 1, none⟩))).run Tryd.prog w' = .ok (.agg #[.bool qt, .bool qd, .string ⟨qb.toArray⟩]) w') ∧ ((Instr.loadAt 36 (.pointer (some ⟨b4, 4, none⟩))).run Tryd.prog w' = .ok (.agg #[.bool ut, .bool ud, .string ⟨ub.toArray⟩]) w'))) (by kernel_rfl) ⟨(FB.out _ (hO.suf sfx)).1, (FB.out _ (hO.suf sfx)).2.1, (FB.out _ (hO.suf sfx)).2.2⟩ (fun hS => ?_)
        refine tV 0 ⟨some 20, .move (.tmp 6), _, _, _, none⟩ hS ?_
        refine tV 1 ⟨some 21, .binOp .neq 44 (.tmp 20) (.const (.int .i64 0)) 44, _, _, _, none⟩ hS ?_
        refine tV 2 ⟨some 22, .move (.tmp 21), _, _, _, none⟩ hS ?_
        refine tV 3 ⟨some 23, .move (.tmp 5), _, _, _, some (2, false)⟩ hS ?_
        refine tV 4 ⟨some 24, .call { callee := .builtin .len, args := #[.tmp 23], argTypes := #[75] }, _, _, _, some (2, false)⟩ hS ?_
        refine tV 5 ⟨some 25, .binOp .eql 3 (.tmp 24) (.const (.int .i64 0)) 3, _, _, _, some (2, false)⟩ hS ?_
        refine tV 6 ⟨some 26, .pick (.tmp 22) (.const (.bool true)) (.tmp 25), _, _, _, none⟩ hS ?_
        refine tV 7 ⟨some 27, .move (.tmp 26), _, _, _, none⟩ hS ?_
        refine tU 8 ⟨some 28, .move (.tmp 3), _, _, _, some (7, false)⟩ hS ?_
        refine tU 9 ⟨some 29, .binOp .gtr 3 (.tmp 28) (.const (.int .i64 0)) 3, _, _, _, some (7, false)⟩ hS ?_
        refine tU 10 ⟨some 30, .move (.tmp 29), _, _, _, some (7, false)⟩ hS ?_
        refine tU 11 ⟨some 31, .move (.tmp 0), _, _, _, some (10, true)⟩ hS ?_
        refine tU 12 ⟨some 32, .move (.tmp 3), _, _, _, some (10, true)⟩ hS ?_
        refine tU 13 ⟨some 33, .binOp .sub 3 (.tmp 32) (.const (.int .i64 1)) 3, _, _, _, some (10, true)⟩ hS ?_
        refine tU 14 ⟨some 34, .indexAddr 30 (.tmp 31) (.tmp 33), _, _, _, some (10, true)⟩ hS ?_
        refine tU 15 ⟨some 35, .fieldAddr 65 (.tmp 34) 0, _, _, _, some (10, true)⟩ hS ?_
        refine tU 16 ⟨some 36, .load 9 (.tmp 35), _, _, _, some (10, true)⟩ hS ?_
        refine tU 17 ⟨some 37, .fieldAddr 65 (.tmp 4) 0, _, _, _, some (10, true)⟩ hS ?_
        refine tU 18 ⟨some 38, .load 9 (.tmp 37), _, _, _, some (10, true)⟩ hS ?_
        refine tU 19 ⟨some 39, .call { callee := .value (.func 17), args := #[.tmp 36, .tmp 38], argTypes := #[9, 9] }, _, _, _, some (10, true)⟩ hS ?_
        refine tU 20 ⟨some 40, .binOp .geq 3 (.tmp 39) (.const (.int .i64 0)) 3, _, _, _, some (10, true)⟩ hS ?_
        refine tU 21 ⟨some 41, .pick (.tmp 30) (.tmp 40) (.const (.bool false)), _, _, _, some (7, false)⟩ hS ?_
        refine tV 22 ⟨some 42, .pick (.tmp 27) (.const (.bool true)) (.tmp 41), _, _, _, none⟩ hS ?_
        refine tV 23 ⟨some 43, .move (.tmp 42), _, _, _, none⟩ hS ?_
        refine tU 24 ⟨some 44, .fieldAddr 65 (.tmp 4) 1, _, _, _, some (23, false)⟩ hS ?_
        refine tU 25 ⟨some 45, .load 36 (.tmp 44), _, _, _, some (23, false)⟩ hS ?_
        refine tU 26 ⟨some 46, .fieldAddr 65 (.tmp 4) 2, _, _, _, some (23, false)⟩ hS ?_
        refine tU 27 ⟨some 47, .load 36 (.tmp 46), _, _, _, some (23, false)⟩ hS ?_
        refine tU 28 ⟨some 48, .binOp .eql 36 (.tmp 45) (.tmp 47) 36, _, _, _, some (23, false)⟩ hS ?_
        refine tV 29 ⟨some 49, .pick (.tmp 43) (.const (.bool true)) (.tmp 48), _, _, _, none⟩ hS ?_
        refine tV 30 ⟨some 50, .move (.tmp 49), _, _, _, none⟩ hS ?_
        refine tU 31 ⟨some 51, .fieldAddr 65 (.tmp 4) 1, _, _, _, some (30, false)⟩ hS ?_
        refine tU 32 ⟨some 52, .load 36 (.tmp 51), _, _, _, some (30, false)⟩ hS ?_
        refine tU 33 ⟨some 53, .call { callee := .value (.func 63), args := #[.tmp 52], argTypes := #[36] }, _, _, _, some (30, false)⟩ hS ?_
        refine tU 34 ⟨some 54, .unOp Go.UnOp.not 4 (.tmp 53), _, _, _, some (30, false)⟩ hS ?_
        refine tV 35 ⟨some 55, .pick (.tmp 50) (.const (.bool true)) (.tmp 54), _, _, _, none⟩ hS ?_
        refine tV 36 ⟨some 56, .move (.tmp 55), _, _, _, none⟩ hS ?_
        refine tU 37 ⟨some 57, .fieldAddr 65 (.tmp 4) 2, _, _, _, some (36, false)⟩ hS ?_
        refine tU 38 ⟨some 58, .load 36 (.tmp 57), _, _, _, some (36, false)⟩ hS ?_
        refine tU 39 ⟨some 59, .call { callee := .value (.func 63), args := #[.tmp 58], argTypes := #[36] }, _, _, _, some (36, false)⟩ hS ?_
        refine tU 40 ⟨some 60, .unOp Go.UnOp.not 4 (.tmp 59), _, _, _, some (36, false)⟩ hS ?_
        refine tV 41 ⟨some 61, .pick (.tmp 56) (.const (.bool true)) (.tmp 60), _, _, _, none⟩ hS ?_
        refine wpAnyH_done (by kernel_rfl) ?_ _
        all_goals
          clear hS hE
          have hE := hO.tail.tail
          clear hO
          go_wp2
          refine bodyPost_ret (results_tmp rfl _ _ _) rfl ?_
          exact ⟨_, rfl, .mk false hE (iff_of_false (by decide) (fun h => by have := (Hst.out.2 h).1; rw [Hb.out] at this; cases this))⟩
      next n =>
      have hnz : ((n : Int) + 1 == 0) = false := by rw [beq_eq_false_iff_ne]; omega
      cases k with
      | zero =>
        cases eq
        case' true =>
          have Hb := SL.hid (show g = false by rw [Hg.out]; simp)
          have hO := hE.drew
          refine wp_region_held_drew (S := (fun w' => ((Instr.loadAt 9 (.pointer (some ⟨b4, 0, none⟩))).run Tryd.prog w' = .ok (.string ⟨xp.toArray⟩) w') ∧ ((Instr.loadAt 36 (.pointer (some ⟨b4, 1, none⟩))).run Tryd.prog w' = .ok (.agg #[.bool qt, .bool qd, .string ⟨qb.toArray⟩]) w') ∧ ((Instr.loadAt 36 (.pointer (some ⟨b4, 4, none⟩))).run Tryd.prog w' = .ok (.agg #[.bool ut, .bool ud, .string ⟨ub.toArray⟩]) w'))) (by kernel_rfl) ⟨(FB.out _ (hO.suf sfx)).1, (FB.out _ (hO.suf sfx)).2.1, (FB.out _ (hO.suf sfx)).2.2⟩ (fun hS => ?_)
          refine tV 0 ⟨some 20, .move (.tmp 6), _, _, _, none⟩ hS ?_
          refine tV 1 ⟨some 21, .binOp .neq 44 (.tmp 20) (.const (.int .i64 0)) 44, _, _, _, none⟩ hS ?_
          refine tV 2 ⟨some 22, .move (.tmp 21), _, _, _, none⟩ hS ?_
          refine tV 3 ⟨some 23, .move (.tmp 5), _, _, _, some (2, false)⟩ hS ?_
          refine tV 4 ⟨some 24, .call { callee := .builtin .len, args := #[.tmp 23], argTypes := #[75] }, _, _, _, some (2, false)⟩ hS ?_
          refine tV 5 ⟨some 25, .binOp .eql 3 (.tmp 24) (.const (.int .i64 0)) 3, _, _, _, some (2, false)⟩ hS ?_
          refine tV 6 ⟨some 26, .pick (.tmp 22) (.const (.bool true)) (.tmp 25), _, _, _, none⟩ hS ?_
          refine tV 7 ⟨some 27, .move (.tmp 26), _, _, _, none⟩ hS ?_
          refine tV 8 ⟨some 28, .move (.tmp 3), _, _, _, some (7, false)⟩ hS ?_
          refine tV 9 ⟨some 29, .binOp .gtr 3 (.tmp 28) (.const (.int .i64 0)) 3, _, _, _, some (7, false)⟩ hS ?_
          refine tV 10 ⟨some 30, .move (.tmp 29), _, _, _, some (7, false)⟩ hS ?_
          refine tU 11 ⟨some 31, .move (.tmp 0), _, _, _, some (10, true)⟩ hS ?_
          refine tU 12 ⟨some 32, .move (.tmp 3), _, _, _, some (10, true)⟩ hS ?_
          refine tU 13 ⟨some 33, .binOp .sub 3 (.tmp 32) (.const (.int .i64 1)) 3, _, _, _, some (10, true)⟩ hS ?_
          refine tU 14 ⟨some 34, .indexAddr 30 (.tmp 31) (.tmp 33), _, _, _, some (10, true)⟩ hS ?_
          refine tU 15 ⟨some 35, .fieldAddr 65 (.tmp 34) 0, _, _, _, some (10, true)⟩ hS ?_
          refine tU 16 ⟨some 36, .load 9 (.tmp 35), _, _, _, some (10, true)⟩ hS ?_
          refine tU 17 ⟨some 37, .fieldAddr 65 (.tmp 4) 0, _, _, _, some (10, true)⟩ hS ?_
          refine tU 18 ⟨some 38, .load 9 (.tmp 37), _, _, _, some (10, true)⟩ hS ?_
          refine tU 19 ⟨some 39, .call { callee := .value (.func 17), args := #[.tmp 36, .tmp 38], argTypes := #[9, 9] }, _, _, _, some (10, true)⟩ hS ?_
          refine tU 20 ⟨some 40, .binOp .geq 3 (.tmp 39) (.const (.int .i64 0)) 3, _, _, _, some (10, true)⟩ hS ?_
          refine tV 21 ⟨some 41, .pick (.tmp 30) (.tmp 40) (.const (.bool false)), _, _, _, some (7, false)⟩ hS ?_
          refine tV 22 ⟨some 42, .pick (.tmp 27) (.const (.bool true)) (.tmp 41), _, _, _, none⟩ hS ?_
          refine tV 23 ⟨some 43, .move (.tmp 42), _, _, _, none⟩ hS ?_
          refine tV 24 ⟨some 44, .fieldAddr 65 (.tmp 4) 1, _, _, _, some (23, false)⟩ hS ?_
          refine tL 25 ⟨some 45, .load 36 (.tmp 44), _, _, _, some (23, false)⟩ hS ?_
          refine tV 26 ⟨some 46, .fieldAddr 65 (.tmp 4) 2, _, _, _, some (23, false)⟩ hS ?_
          refine tL 27 ⟨some 47, .load 36 (.tmp 46), _, _, _, some (23, false)⟩ hS ?_
          refine tV 28 ⟨some 48, .binOp .eql 36 (.tmp 45) (.tmp 47) 36, _, _, _, some (23, false)⟩ hS ?_
          refine tV 29 ⟨some 49, .pick (.tmp 43) (.const (.bool true)) (.tmp 48), _, _, _, none⟩ hS ?_
          refine tV 30 ⟨some 50, .move (.tmp 49), _, _, _, none⟩ hS ?_
          refine tU 31 ⟨some 51, .fieldAddr 65 (.tmp 4) 1, _, _, _, some (30, false)⟩ hS ?_
          refine tU 32 ⟨some 52, .load 36 (.tmp 51), _, _, _, some (30, false)⟩ hS ?_
          refine tU 33 ⟨some 53, .call { callee := .value (.func 63), args := #[.tmp 52], argTypes := #[36] }, _, _, _, some (30, false)⟩ hS ?_
          refine tU 34 ⟨some 54, .unOp Go.UnOp.not 4 (.tmp 53), _, _, _, some (30, false)⟩ hS ?_
          refine tV 35 ⟨some 55, .pick (.tmp 50) (.const (.bool true)) (.tmp 54), _, _, _, none⟩ hS ?_
          refine tV 36 ⟨some 56, .move (.tmp 55), _, _, _, none⟩ hS ?_
          refine tU 37 ⟨some 57, .fieldAddr 65 (.tmp 4) 2, _, _, _, some (36, false)⟩ hS ?_
          refine tU 38 ⟨some 58, .load 36 (.tmp 57), _, _, _, some (36, false)⟩ hS ?_
          refine tU 39 ⟨some 59, .call { callee := .value (.func 63), args := #[.tmp 58], argTypes := #[36] }, _, _, _, some (36, false)⟩ hS ?_
          refine tU 40 ⟨some 60, .unOp Go.UnOp.not 4 (.tmp 59), _, _, _, some (36, false)⟩ hS ?_
          refine tV 41 ⟨some 61, .pick (.tmp 56) (.const (.bool true)) (.tmp 60), _, _, _, none⟩ hS ?_
          refine wpAnyH_done (by kernel_rfl) ?_ _
          all_goals
            clear hS hE
            have hE := hO.tail.tail
            clear hO
            go_wp2
            refine bodyPost_ret (results_tmp rfl _ _ _) rfl ?_
            exact ⟨_, rfl, .mk false hE (iff_of_false (by decide) (fun h => by have := (Hst.out.2 h).1; rw [Hb.out] at this; cases this))⟩
        cases m1
        case' false =>
          have Hb := SL.hid (show g = false by rw [Hg.out]; simp)
          have hO := hE.drew
          refine wp_region_held_drew (S := (fun w' => ((Instr.loadAt 9 (.pointer (some ⟨b4, 0, none⟩))).run Tryd.prog w' = .ok (.string ⟨xp.toArray⟩) w') ∧ ((Instr.loadAt 36 (.pointer (some ⟨b4, 1, none⟩))).run Tryd.prog w' = .ok (.agg #[.bool qt, .bool qd, .string ⟨qb.toArray⟩]) w') ∧ ((Instr.loadAt 36 (.pointer (some ⟨b4, 4, none⟩))).run Tryd.prog w' = .ok (.agg #[.bool ut, .bool ud, .string ⟨ub.toArray⟩]) w'))) (by kernel_rfl) ⟨(FB.out _ (hO.suf sfx)).1, (FB.out _ (hO.suf sfx)).2.1, (FB.out _ (hO.suf sfx)).2.2⟩ (fun hS => ?_)
          refine tV 0 ⟨some 20, .move (.tmp 6), _, _, _, none⟩ hS ?_
          refine tV 1 ⟨some 21, .binOp .neq 44 (.tmp 20) (.const (.int .i64 0)) 44, _, _, _, none⟩ hS ?_
          refine tV 2 ⟨some 22, .move (.tmp 21), _, _, _, none⟩ hS ?_
          refine tV 3 ⟨some 23, .move (.tmp 5), _, _, _, some (2, false)⟩ hS ?_
          refine tV 4 ⟨some 24, .call { callee := .builtin .len, args := #[.tmp 23], argTypes := #[75] }, _, _, _, some (2, false)⟩ hS ?_
          refine tV 5 ⟨some 25, .binOp .eql 3 (.tmp 24) (.const (.int .i64 0)) 3, _, _, _, some (2, false)⟩ hS ?_
          refine tV 6 ⟨some 26, .pick (.tmp 22) (.const (.bool true)) (.tmp 25), _, _, _, none⟩ hS ?_
          refine tV 7 ⟨some 27, .move (.tmp 26), _, _, _, none⟩ hS ?_
          refine tV 8 ⟨some 28, .move (.tmp 3), _, _, _, some (7, false)⟩ hS ?_
          refine tV 9 ⟨some 29, .binOp .gtr 3 (.tmp 28) (.const (.int .i64 0)) 3, _, _, _, some (7, false)⟩ hS ?_
          refine tV 10 ⟨some 30, .move (.tmp 29), _, _, _, some (7, false)⟩ hS ?_
          refine tU 11 ⟨some 31, .move (.tmp 0), _, _, _, some (10, true)⟩ hS ?_
          refine tU 12 ⟨some 32, .move (.tmp 3), _, _, _, some (10, true)⟩ hS ?_
          refine tU 13 ⟨some 33, .binOp .sub 3 (.tmp 32) (.const (.int .i64 1)) 3, _, _, _, some (10, true)⟩ hS ?_
          refine tU 14 ⟨some 34, .indexAddr 30 (.tmp 31) (.tmp 33), _, _, _, some (10, true)⟩ hS ?_
          refine tU 15 ⟨some 35, .fieldAddr 65 (.tmp 34) 0, _, _, _, some (10, true)⟩ hS ?_
          refine tU 16 ⟨some 36, .load 9 (.tmp 35), _, _, _, some (10, true)⟩ hS ?_
          refine tU 17 ⟨some 37, .fieldAddr 65 (.tmp 4) 0, _, _, _, some (10, true)⟩ hS ?_
          refine tU 18 ⟨some 38, .load 9 (.tmp 37), _, _, _, some (10, true)⟩ hS ?_
          refine tU 19 ⟨some 39, .call { callee := .value (.func 17), args := #[.tmp 36, .tmp 38], argTypes := #[9, 9] }, _, _, _, some (10, true)⟩ hS ?_
          refine tU 20 ⟨some 40, .binOp .geq 3 (.tmp 39) (.const (.int .i64 0)) 3, _, _, _, some (10, true)⟩ hS ?_
          refine tV 21 ⟨some 41, .pick (.tmp 30) (.tmp 40) (.const (.bool false)), _, _, _, some (7, false)⟩ hS ?_
          refine tV 22 ⟨some 42, .pick (.tmp 27) (.const (.bool true)) (.tmp 41), _, _, _, none⟩ hS ?_
          refine tV 23 ⟨some 43, .move (.tmp 42), _, _, _, none⟩ hS ?_
          refine tV 24 ⟨some 44, .fieldAddr 65 (.tmp 4) 1, _, _, _, some (23, false)⟩ hS ?_
          refine tL 25 ⟨some 45, .load 36 (.tmp 44), _, _, _, some (23, false)⟩ hS ?_
          refine tV 26 ⟨some 46, .fieldAddr 65 (.tmp 4) 2, _, _, _, some (23, false)⟩ hS ?_
          refine tL 27 ⟨some 47, .load 36 (.tmp 46), _, _, _, some (23, false)⟩ hS ?_
          refine tV 28 ⟨some 48, .binOp .eql 36 (.tmp 45) (.tmp 47) 36, _, _, _, some (23, false)⟩ hS ?_
          refine tV 29 ⟨some 49, .pick (.tmp 43) (.const (.bool true)) (.tmp 48), _, _, _, none⟩ hS ?_
          refine tV 30 ⟨some 50, .move (.tmp 49), _, _, _, none⟩ hS ?_
          refine tV 31 ⟨some 51, .fieldAddr 65 (.tmp 4) 1, _, _, _, some (30, false)⟩ hS ?_
          refine tL 32 ⟨some 52, .load 36 (.tmp 51), _, _, _, some (30, false)⟩ hS ?_
          refine wpAnyH_ready (rs := [33]) (by kernel_rfl) (by simp) ?_
          refine (AllReadyH.cons (o := ⟨some 53, .call { callee := .value (.func 63), args := #[.tmp 52], argTypes := #[36] }, _, _, _, some (30, false)⟩) rfl (fun K hK => ?_) AllReadyH.nil)
          (go_simp; refine (HA.out _ _ hO).mono ?_; clear hO; rintro e w5 ⟨v, h1, h2, hO⟩; cases h1; cases h2)
          refine hK.out _ _ ⟨(FB.out _ (hO.suf sfx)).1, (FB.out _ (hO.suf sfx)).2.1, (FB.out _ (hO.suf sfx)).2.2⟩ (fun hS => ?_)
          clear hK K
          try simp only [Act.put, sb, s0, sz]
          refine tV 34 ⟨some 54, .unOp Go.UnOp.not 4 (.tmp 53), _, _, _, some (30, false)⟩ hS ?_
          refine tV 35 ⟨some 55, .pick (.tmp 50) (.const (.bool true)) (.tmp 54), _, _, _, none⟩ hS ?_
          refine tV 36 ⟨some 56, .move (.tmp 55), _, _, _, none⟩ hS ?_
          refine tU 37 ⟨some 57, .fieldAddr 65 (.tmp 4) 2, _, _, _, some (36, false)⟩ hS ?_
          refine tU 38 ⟨some 58, .load 36 (.tmp 57), _, _, _, some (36, false)⟩ hS ?_
          refine tU 39 ⟨some 59, .call { callee := .value (.func 63), args := #[.tmp 58], argTypes := #[36] }, _, _, _, some (36, false)⟩ hS ?_
          refine tU 40 ⟨some 60, .unOp Go.UnOp.not 4 (.tmp 59), _, _, _, some (36, false)⟩ hS ?_
          refine tV 41 ⟨some 61, .pick (.tmp 56) (.const (.bool true)) (.tmp 60), _, _, _, none⟩ hS ?_
          refine wpAnyH_done (by kernel_rfl) ?_ _
          all_goals
            clear hS hE
            have hE := hO.tail.tail
            clear hO
            go_wp2
            refine bodyPost_ret (results_tmp rfl _ _ _) rfl ?_
            exact ⟨_, rfl, .mk false hE (iff_of_false (by decide) (fun h => by have := (Hst.out.2 h).1; rw [Hb.out] at this; cases this))⟩
        cases m2
        case' false =>
          have Hb := SL.hid (show g = false by rw [Hg.out]; simp)
          have hO := hE.drew
          refine wp_region_held_drew (S := (fun w' => ((Instr.loadAt 9 (.pointer (some ⟨b4, 0, none⟩))).run Tryd.prog w' = .ok (.string ⟨xp.toArray⟩) w') ∧ ((Instr.loadAt 36 (.pointer (some ⟨b4, 1, none⟩))).run Tryd.prog w' = .ok (.agg #[.bool qt, .bool qd, .string ⟨qb.toArray⟩]) w') ∧ ((Instr.loadAt 36 (.pointer (some ⟨b4, 4, none⟩))).run Tryd.prog w' = .ok (.agg #[.bool ut, .bool ud, .string ⟨ub.toArray⟩]) w'))) (by kernel_rfl) ⟨(FB.out _ (hO.suf sfx)).1, (FB.out _ (hO.suf sfx)).2.1, (FB.out _ (hO.suf sfx)).2.2⟩ (fun hS => ?_)
          refine tV 0 ⟨some 20, .move (.tmp 6), _, _, _, none⟩ hS ?_
          refine tV 1 ⟨some 21, .binOp .neq 44 (.tmp 20) (.const (.int .i64 0)) 44, _, _, _, none⟩ hS ?_
          refine tV 2 ⟨some 22, .move (.tmp 21), _, _, _, none⟩ hS ?_
          refine tV 3 ⟨some 23, .move (.tmp 5), _, _, _, some (2, false)⟩ hS ?_
          refine tV 4 ⟨some 24, .call { callee := .builtin .len, args := #[.tmp 23], argTypes := #[75] }, _, _, _, some (2, false)⟩ hS ?_
          refine tV 5 ⟨some 25, .binOp .eql 3 (.tmp 24) (.const (.int .i64 0)) 3, _, _, _, some (2, false)⟩ hS ?_
          refine tV 6 ⟨some 26, .pick (.tmp 22) (.const (.bool true)) (.tmp 25), _, _, _, none⟩ hS ?_
          refine tV 7 ⟨some 27, .move (.tmp 26), _, _, _, none⟩ hS ?_
          refine tV 8 ⟨some 28, .move (.tmp 3), _, _, _, some (7, false)⟩ hS ?_
          refine tV 9 ⟨some 29, .binOp .gtr 3 (.tmp 28) (.const (.int .i64 0)) 3, _, _, _, some (7, false)⟩ hS ?_
          refine tV 10 ⟨some 30, .move (.tmp 29), _, _, _, some (7, false)⟩ hS ?_
          refine tU 11 ⟨some 31, .move (.tmp 0), _, _, _, some (10, true)⟩ hS ?_
          refine tU 12 ⟨some 32, .move (.tmp 3), _, _, _, some (10, true)⟩ hS ?_
          refine tU 13 ⟨some 33, .binOp .sub 3 (.tmp 32) (.const (.int .i64 1)) 3, _, _, _, some (10, true)⟩ hS ?_
          refine tU 14 ⟨some 34, .indexAddr 30 (.tmp 31) (.tmp 33), _, _, _, some (10, true)⟩ hS ?_
          refine tU 15 ⟨some 35, .fieldAddr 65 (.tmp 34) 0, _, _, _, some (10, true)⟩ hS ?_
          refine tU 16 ⟨some 36, .load 9 (.tmp 35), _, _, _, some (10, true)⟩ hS ?_
          refine tU 17 ⟨some 37, .fieldAddr 65 (.tmp 4) 0, _, _, _, some (10, true)⟩ hS ?_
          refine tU 18 ⟨some 38, .load 9 (.tmp 37), _, _, _, some (10, true)⟩ hS ?_
          refine tU 19 ⟨some 39, .call { callee := .value (.func 17), args := #[.tmp 36, .tmp 38], argTypes := #[9, 9] }, _, _, _, some (10, true)⟩ hS ?_
          refine tU 20 ⟨some 40, .binOp .geq 3 (.tmp 39) (.const (.int .i64 0)) 3, _, _, _, some (10, true)⟩ hS ?_
          refine tV 21 ⟨some 41, .pick (.tmp 30) (.tmp 40) (.const (.bool false)), _, _, _, some (7, false)⟩ hS ?_
          refine tV 22 ⟨some 42, .pick (.tmp 27) (.const (.bool true)) (.tmp 41), _, _, _, none⟩ hS ?_
          refine tV 23 ⟨some 43, .move (.tmp 42), _, _, _, none⟩ hS ?_
          refine tV 24 ⟨some 44, .fieldAddr 65 (.tmp 4) 1, _, _, _, some (23, false)⟩ hS ?_
          refine tL 25 ⟨some 45, .load 36 (.tmp 44), _, _, _, some (23, false)⟩ hS ?_
          refine tV 26 ⟨some 46, .fieldAddr 65 (.tmp 4) 2, _, _, _, some (23, false)⟩ hS ?_
          refine tL 27 ⟨some 47, .load 36 (.tmp 46), _, _, _, some (23, false)⟩ hS ?_
          refine tV 28 ⟨some 48, .binOp .eql 36 (.tmp 45) (.tmp 47) 36, _, _, _, some (23, false)⟩ hS ?_
          refine tV 29 ⟨some 49, .pick (.tmp 43) (.const (.bool true)) (.tmp 48), _, _, _, none⟩ hS ?_
          refine tV 30 ⟨some 50, .move (.tmp 49), _, _, _, none⟩ hS ?_
          refine tV 31 ⟨some 51, .fieldAddr 65 (.tmp 4) 1, _, _, _, some (30, false)⟩ hS ?_
          refine tL 32 ⟨some 52, .load 36 (.tmp 51), _, _, _, some (30, false)⟩ hS ?_
          refine wpAnyH_ready (rs := [33]) (by kernel_rfl) (by simp) ?_
          refine (AllReadyH.cons (o := ⟨some 53, .call { callee := .value (.func 63), args := #[.tmp 52], argTypes := #[36] }, _, _, _, some (30, false)⟩) rfl (fun K hK => ?_) AllReadyH.nil)
          (go_simp; refine (HA.out _ _ hO).mono ?_; clear hO; rintro e w5 ⟨v, h1, h2, hO⟩; cases h1; cases h2)
          refine hK.out _ _ ⟨(FB.out _ (hO.suf sfx)).1, (FB.out _ (hO.suf sfx)).2.1, (FB.out _ (hO.suf sfx)).2.2⟩ (fun hS => ?_)
          clear hK K
          try simp only [Act.put, sb, s0, sz]
          refine tV 34 ⟨some 54, .unOp Go.UnOp.not 4 (.tmp 53), _, _, _, some (30, false)⟩ hS ?_
          refine tV 35 ⟨some 55, .pick (.tmp 50) (.const (.bool true)) (.tmp 54), _, _, _, none⟩ hS ?_
          refine tV 36 ⟨some 56, .move (.tmp 55), _, _, _, none⟩ hS ?_
          refine tV 37 ⟨some 57, .fieldAddr 65 (.tmp 4) 2, _, _, _, some (36, false)⟩ hS ?_
          refine tL 38 ⟨some 58, .load 36 (.tmp 57), _, _, _, some (36, false)⟩ hS ?_
          refine wpAnyH_ready (rs := [39]) (by kernel_rfl) (by simp) ?_
          refine (AllReadyH.cons (o := ⟨some 59, .call { callee := .value (.func 63), args := #[.tmp 58], argTypes := #[36] }, _, _, _, some (36, false)⟩) rfl (fun K hK => ?_) AllReadyH.nil)
          (go_simp; refine (HB.out _ _ hO).mono ?_; clear hO; rintro e w5 ⟨v, h1, h2, hO⟩; cases h1; cases h2)
          refine hK.out _ _ ⟨(FB.out _ (hO.suf sfx)).1, (FB.out _ (hO.suf sfx)).2.1, (FB.out _ (hO.suf sfx)).2.2⟩ (fun hS => ?_)
          clear hK K
          try simp only [Act.put, sb, s0, sz]
          refine tV 40 ⟨some 60, .unOp Go.UnOp.not 4 (.tmp 59), _, _, _, some (36, false)⟩ hS ?_
          refine tV 41 ⟨some 61, .pick (.tmp 56) (.const (.bool true)) (.tmp 60), _, _, _, none⟩ hS ?_
          refine wpAnyH_done (by kernel_rfl) ?_ _
          all_goals
            clear hS hE
            have hE := hO.tail.tail
            clear hO
            go_wp2
            refine bodyPost_ret (results_tmp rfl _ _ _) rfl ?_
            exact ⟨_, rfl, .mk false hE (iff_of_false (by decide) (fun h => by have := (Hst.out.2 h).1; rw [Hb.out] at this; cases this))⟩
        have Hb := SL.hid (show g = true by rw [Hg.out]; simp)
        clear Hg
        have hO := hE.drew
        refine wp_region_held_drew (S := (fun w' => ((Instr.loadAt 9 (.pointer (some ⟨b4, 0, none⟩))).run Tryd.prog w' = .ok (.string ⟨xp.toArray⟩) w') ∧ ((Instr.loadAt 36 (.pointer (some ⟨b4, 1, none⟩))).run Tryd.prog w' = .ok (.agg #[.bool qt, .bool qd, .string ⟨qb.toArray⟩]) w') ∧ ((Instr.loadAt 36 (.pointer (some ⟨b4, 4, none⟩))).run Tryd.prog w' = .ok (.agg #[.bool ut, .bool ud, .string ⟨ub.toArray⟩]) w'))) (by kernel_rfl) ⟨(FB.out _ (hO.suf sfx)).1, (FB.out _ (hO.suf sfx)).2.1, (FB.out _ (hO.suf sfx)).2.2⟩ (fun hS => ?_)
        refine tV 0 ⟨some 20, .move (.tmp 6), _, _, _, none⟩ hS ?_
        refine tV 1 ⟨some 21, .binOp .neq 44 (.tmp 20) (.const (.int .i64 0)) 44, _, _, _, none⟩ hS ?_
        refine tV 2 ⟨some 22, .move (.tmp 21), _, _, _, none⟩ hS ?_
        refine tV 3 ⟨some 23, .move (.tmp 5), _, _, _, some (2, false)⟩ hS ?_
        refine tV 4 ⟨some 24, .call { callee := .builtin .len, args := #[.tmp 23], argTypes := #[75] }, _, _, _, some (2, false)⟩ hS ?_
        refine tV 5 ⟨some 25, .binOp .eql 3 (.tmp 24) (.const (.int .i64 0)) 3, _, _, _, some (2, false)⟩ hS ?_
        refine tV 6 ⟨some 26, .pick (.tmp 22) (.const (.bool true)) (.tmp 25), _, _, _, none⟩ hS ?_
        refine tV 7 ⟨some 27, .move (.tmp 26), _, _, _, none⟩ hS ?_
        refine tV 8 ⟨some 28, .move (.tmp 3), _, _, _, some (7, false)⟩ hS ?_
        refine tV 9 ⟨some 29, .binOp .gtr 3 (.tmp 28) (.const (.int .i64 0)) 3, _, _, _, some (7, false)⟩ hS ?_
        refine tV 10 ⟨some 30, .move (.tmp 29), _, _, _, some (7, false)⟩ hS ?_
        refine tU 11 ⟨some 31, .move (.tmp 0), _, _, _, some (10, true)⟩ hS ?_
        refine tU 12 ⟨some 32, .move (.tmp 3), _, _, _, some (10, true)⟩ hS ?_
        refine tU 13 ⟨some 33, .binOp .sub 3 (.tmp 32) (.const (.int .i64 1)) 3, _, _, _, some (10, true)⟩ hS ?_
        refine tU 14 ⟨some 34, .indexAddr 30 (.tmp 31) (.tmp 33), _, _, _, some (10, true)⟩ hS ?_
        refine tU 15 ⟨some 35, .fieldAddr 65 (.tmp 34) 0, _, _, _, some (10, true)⟩ hS ?_
        refine tU 16 ⟨some 36, .load 9 (.tmp 35), _, _, _, some (10, true)⟩ hS ?_
        refine tU 17 ⟨some 37, .fieldAddr 65 (.tmp 4) 0, _, _, _, some (10, true)⟩ hS ?_
        refine tU 18 ⟨some 38, .load 9 (.tmp 37), _, _, _, some (10, true)⟩ hS ?_
        refine tU 19 ⟨some 39, .call { callee := .value (.func 17), args := #[.tmp 36, .tmp 38], argTypes := #[9, 9] }, _, _, _, some (10, true)⟩ hS ?_
        refine tU 20 ⟨some 40, .binOp .geq 3 (.tmp 39) (.const (.int .i64 0)) 3, _, _, _, some (10, true)⟩ hS ?_
        refine tV 21 ⟨some 41, .pick (.tmp 30) (.tmp 40) (.const (.bool false)), _, _, _, some (7, false)⟩ hS ?_
        refine tV 22 ⟨some 42, .pick (.tmp 27) (.const (.bool true)) (.tmp 41), _, _, _, none⟩ hS ?_
        refine tV 23 ⟨some 43, .move (.tmp 42), _, _, _, none⟩ hS ?_
        refine tV 24 ⟨some 44, .fieldAddr 65 (.tmp 4) 1, _, _, _, some (23, false)⟩ hS ?_
        refine tL 25 ⟨some 45, .load 36 (.tmp 44), _, _, _, some (23, false)⟩ hS ?_
        refine tV 26 ⟨some 46, .fieldAddr 65 (.tmp 4) 2, _, _, _, some (23, false)⟩ hS ?_
        refine tL 27 ⟨some 47, .load 36 (.tmp 46), _, _, _, some (23, false)⟩ hS ?_
        refine tV 28 ⟨some 48, .binOp .eql 36 (.tmp 45) (.tmp 47) 36, _, _, _, some (23, false)⟩ hS ?_
        refine tV 29 ⟨some 49, .pick (.tmp 43) (.const (.bool true)) (.tmp 48), _, _, _, none⟩ hS ?_
        refine tV 30 ⟨some 50, .move (.tmp 49), _, _, _, none⟩ hS ?_
        refine tV 31 ⟨some 51, .fieldAddr 65 (.tmp 4) 1, _, _, _, some (30, false)⟩ hS ?_
        refine tL 32 ⟨some 52, .load 36 (.tmp 51), _, _, _, some (30, false)⟩ hS ?_
        refine wpAnyH_ready (rs := [33]) (by kernel_rfl) (by simp) ?_
        refine (AllReadyH.cons (o := ⟨some 53, .call { callee := .value (.func 63), args := #[.tmp 52], argTypes := #[36] }, _, _, _, some (30, false)⟩) rfl (fun K hK => ?_) AllReadyH.nil)
        (go_simp; refine (HA.out _ _ hO).mono ?_; clear hO; rintro e w5 ⟨v, h1, h2, hO⟩; cases h1; cases h2)
        refine hK.out _ _ ⟨(FB.out _ (hO.suf sfx)).1, (FB.out _ (hO.suf sfx)).2.1, (FB.out _ (hO.suf sfx)).2.2⟩ (fun hS => ?_)
        clear hK K
        try simp only [Act.put, sb, s0, sz]
        refine tV 34 ⟨some 54, .unOp Go.UnOp.not 4 (.tmp 53), _, _, _, some (30, false)⟩ hS ?_
        refine tV 35 ⟨some 55, .pick (.tmp 50) (.const (.bool true)) (.tmp 54), _, _, _, none⟩ hS ?_
        refine tV 36 ⟨some 56, .move (.tmp 55), _, _, _, none⟩ hS ?_
        refine tV 37 ⟨some 57, .fieldAddr 65 (.tmp 4) 2, _, _, _, some (36, false)⟩ hS ?_
        refine tL 38 ⟨some 58, .load 36 (.tmp 57), _, _, _, some (36, false)⟩ hS ?_
        refine wpAnyH_ready (rs := [39]) (by kernel_rfl) (by simp) ?_
        refine (AllReadyH.cons (o := ⟨some 59, .call { callee := .value (.func 63), args := #[.tmp 58], argTypes := #[36] }, _, _, _, some (36, false)⟩) rfl (fun K hK => ?_) AllReadyH.nil)
        (go_simp; refine (HB.out _ _ hO).mono ?_; clear hO; rintro e w5 ⟨v, h1, h2, hO⟩; cases h1; cases h2)
        refine hK.out _ _ ⟨(FB.out _ (hO.suf sfx)).1, (FB.out _ (hO.suf sfx)).2.1, (FB.out _ (hO.suf sfx)).2.2⟩ (fun hS => ?_)
        clear hK K
        try simp only [Act.put, sb, s0, sz]
        refine tV 40 ⟨some 60, .unOp Go.UnOp.not 4 (.tmp 59), _, _, _, some (36, false)⟩ hS ?_
        refine tV 41 ⟨some 61, .pick (.tmp 56) (.const (.bool true)) (.tmp 60), _, _, _, none⟩ hS ?_
        refine wpAnyH_done (by kernel_rfl) ?_ _
        all_goals
          clear hS hE
          have hE := hO.tail.tail
          clear hO
          go_wp2
          go_roundw
          case rel => exact ⟨1, hlt, by first | rfl | simp, Hst.out.1.2 ⟨Hb.out, fun y hy => by simp at hy⟩, hE⟩
          case measure => simp [intOf] <;> omega
      | succ j =>
        have hjl : j < es.length := by omega
        have f1 := SL.hid (show ∀ w, Ent l w → _ from fun w h => load_dc (hk w h) hjl)
        have Hla := SL.hid (last_take hlt)
        have hyl := Hp.out es[j] (List.getElem_mem hjl)
        generalize es[j] = y at *
        have HO2 := SL.hid (fun (L : List HProp) (w : World) (h : Ent L w) => HO.out L w y.path hyl h)
        have hw1 : IntKind.i64.wrap (j : Int) = j := wrap_id (by omega)
        have h0j : (0 : Int) < (j : Int) + 1 := by omega
        have h1j : (0 : Int) ≤ (j : Int) + 1 := by omega
        have h2j : (j : Int) + 1 < (es.length : Int) := by omega
        rcases ord_cases y.path xp with ⟨ho, h1⟩ | ⟨ho, h1, h2⟩ | ⟨ho, h1, h2⟩
        · have Hls := SL.hid h1
          rw [ho] at HO2
          clear ho h1 hyl
          cases eq
          case' true =>
            have Hb := SL.hid (show g = false by rw [Hg.out]; simp)
            have hO := hE.drew
            refine wp_region_held_drew (S := (fun w' => ((Instr.loadAt 9 (.pointer (some ⟨b4, 0, none⟩))).run Tryd.prog w' = .ok (.string ⟨xp.toArray⟩) w') ∧ ((Instr.loadAt 36 (.pointer (some ⟨b4, 1, none⟩))).run Tryd.prog w' = .ok (.agg #[.bool qt, .bool qd, .string ⟨qb.toArray⟩]) w') ∧ ((Instr.loadAt 36 (.pointer (some ⟨b4, 4, none⟩))).run Tryd.prog w' = .ok (.agg #[.bool ut, .bool ud, .string ⟨ub.toArray⟩]) w') ∧ ((Instr.loadAt 9 (.pointer (some ⟨b, off + j * 7, none⟩))).run Tryd.prog w' = .ok (.string ⟨y.path.toArray⟩) w'))) (by kernel_rfl) ⟨(FB.out _ (hO.suf sfx)).1, (FB.out _ (hO.suf sfx)).2.1, (FB.out _ (hO.suf sfx)).2.2, (f1.out _ (hO.suf sfx)).2.1⟩ (fun hS => ?_)
            refine tV 0 ⟨some 20, .move (.tmp 6), _, _, _, none⟩ hS ?_
            refine tV 1 ⟨some 21, .binOp .neq 44 (.tmp 20) (.const (.int .i64 0)) 44, _, _, _, none⟩ hS ?_
            refine tV 2 ⟨some 22, .move (.tmp 21), _, _, _, none⟩ hS ?_
            refine tV 3 ⟨some 23, .move (.tmp 5), _, _, _, some (2, false)⟩ hS ?_
            refine tV 4 ⟨some 24, .call { callee := .builtin .len, args := #[.tmp 23], argTypes := #[75] }, _, _, _, some (2, false)⟩ hS ?_
            refine tV 5 ⟨some 25, .binOp .eql 3 (.tmp 24) (.const (.int .i64 0)) 3, _, _, _, some (2, false)⟩ hS ?_
            refine tV 6 ⟨some 26, .pick (.tmp 22) (.const (.bool true)) (.tmp 25), _, _, _, none⟩ hS ?_
            refine tV 7 ⟨some 27, .move (.tmp 26), _, _, _, none⟩ hS ?_
            refine tV 8 ⟨some 28, .move (.tmp 3), _, _, _, some (7, false)⟩ hS ?_
            refine tV 9 ⟨some 29, .binOp .gtr 3 (.tmp 28) (.const (.int .i64 0)) 3, _, _, _, some (7, false)⟩ hS ?_
            refine tV 10 ⟨some 30, .move (.tmp 29), _, _, _, some (7, false)⟩ hS ?_
            refine tV 11 ⟨some 31, .move (.tmp 0), _, _, _, some (10, true)⟩ hS ?_
            refine tV 12 ⟨some 32, .move (.tmp 3), _, _, _, some (10, true)⟩ hS ?_
            refine tV 13 ⟨some 33, .binOp .sub 3 (.tmp 32) (.const (.int .i64 1)) 3, _, _, _, some (10, true)⟩ hS ?_
            refine tV 14 ⟨some 34, .indexAddr 30 (.tmp 31) (.tmp 33), _, _, _, some (10, true)⟩ hS ?_
            refine tV 15 ⟨some 35, .fieldAddr 65 (.tmp 34) 0, _, _, _, some (10, true)⟩ hS ?_
            refine tL 16 ⟨some 36, .load 9 (.tmp 35), _, _, _, some (10, true)⟩ hS ?_
            refine tV 17 ⟨some 37, .fieldAddr 65 (.tmp 4) 0, _, _, _, some (10, true)⟩ hS ?_
            refine tL 18 ⟨some 38, .load 9 (.tmp 37), _, _, _, some (10, true)⟩ hS ?_
            refine wpAnyH_ready (rs := [19]) (by kernel_rfl) (by simp) ?_
            refine (AllReadyH.cons (o := ⟨some 39, .call { callee := .value (.func 17), args := #[.tmp 36, .tmp 38], argTypes := #[9, 9] }, _, _, _, some (10, true)⟩) rfl (fun K hK => ?_) AllReadyH.nil)
            (go_simp; refine (HO2.out _ _ hO).mono ?_; clear hO; rintro e w5 ⟨v, h1, h2, hO⟩; cases h1; cases h2)
            refine hK.out _ _ ⟨(FB.out _ (hO.suf sfx)).1, (FB.out _ (hO.suf sfx)).2.1, (FB.out _ (hO.suf sfx)).2.2, (f1.out _ (hO.suf sfx)).2.1⟩ (fun hS => ?_)
            clear hK K
            try simp only [Act.put, sb, s0, sz]
            refine tV 20 ⟨some 40, .binOp .geq 3 (.tmp 39) (.const (.int .i64 0)) 3, _, _, _, some (10, true)⟩ hS ?_
            refine tV 21 ⟨some 41, .pick (.tmp 30) (.tmp 40) (.const (.bool false)), _, _, _, some (7, false)⟩ hS ?_
            refine tV 22 ⟨some 42, .pick (.tmp 27) (.const (.bool true)) (.tmp 41), _, _, _, none⟩ hS ?_
            refine tV 23 ⟨some 43, .move (.tmp 42), _, _, _, none⟩ hS ?_
            refine tV 24 ⟨some 44, .fieldAddr 65 (.tmp 4) 1, _, _, _, some (23, false)⟩ hS ?_
            refine tL 25 ⟨some 45, .load 36 (.tmp 44), _, _, _, some (23, false)⟩ hS ?_
            refine tV 26 ⟨some 46, .fieldAddr 65 (.tmp 4) 2, _, _, _, some (23, false)⟩ hS ?_
            refine tL 27 ⟨some 47, .load 36 (.tmp 46), _, _, _, some (23, false)⟩ hS ?_
            refine tV 28 ⟨some 48, .binOp .eql 36 (.tmp 45) (.tmp 47) 36, _, _, _, some (23, false)⟩ hS ?_
            refine tV 29 ⟨some 49, .pick (.tmp 43) (.const (.bool true)) (.tmp 48), _, _, _, none⟩ hS ?_
            refine tV 30 ⟨some 50, .move (.tmp 49), _, _, _, none⟩ hS ?_
            refine tU 31 ⟨some 51, .fieldAddr 65 (.tmp 4) 1, _, _, _, some (30, false)⟩ hS ?_
            refine tU 32 ⟨some 52, .load 36 (.tmp 51), _, _, _, some (30, false)⟩ hS ?_
            refine tU 33 ⟨some 53, .call { callee := .value (.func 63), args := #[.tmp 52], argTypes := #[36] }, _, _, _, some (30, false)⟩ hS ?_
            refine tU 34 ⟨some 54, .unOp Go.UnOp.not 4 (.tmp 53), _, _, _, some (30, false)⟩ hS ?_
            refine tV 35 ⟨some 55, .pick (.tmp 50) (.const (.bool true)) (.tmp 54), _, _, _, none⟩ hS ?_
            refine tV 36 ⟨some 56, .move (.tmp 55), _, _, _, none⟩ hS ?_
            refine tU 37 ⟨some 57, .fieldAddr 65 (.tmp 4) 2, _, _, _, some (36, false)⟩ hS ?_
            refine tU 38 ⟨some 58, .load 36 (.tmp 57), _, _, _, some (36, false)⟩ hS ?_
            refine tU 39 ⟨some 59, .call { callee := .value (.func 63), args := #[.tmp 58], argTypes := #[36] }, _, _, _, some (36, false)⟩ hS ?_
            refine tU 40 ⟨some 60, .unOp Go.UnOp.not 4 (.tmp 59), _, _, _, some (36, false)⟩ hS ?_
            refine tV 41 ⟨some 61, .pick (.tmp 56) (.const (.bool true)) (.tmp 60), _, _, _, none⟩ hS ?_
            refine wpAnyH_done (by kernel_rfl) ?_ _
            all_goals
              clear hS hE
              have hE := hO.tail.tail
              clear hO
              go_wp2
              refine bodyPost_ret (results_tmp rfl _ _ _) rfl ?_
              exact ⟨_, rfl, .mk false hE (iff_of_false (by decide) (fun h => by have := (Hst.out.2 h).1; rw [Hb.out] at this; cases this))⟩
          cases m1
          case' false =>
            have Hb := SL.hid (show g = false by rw [Hg.out]; simp)
            have hO := hE.drew
            refine wp_region_held_drew (S := (fun w' => ((Instr.loadAt 9 (.pointer (some ⟨b4, 0, none⟩))).run Tryd.prog w' = .ok (.string ⟨xp.toArray⟩) w') ∧ ((Instr.loadAt 36 (.pointer (some ⟨b4, 1, none⟩))).run Tryd.prog w' = .ok (.agg #[.bool qt, .bool qd, .string ⟨qb.toArray⟩]) w') ∧ ((Instr.loadAt 36 (.pointer (some ⟨b4, 4, none⟩))).run Tryd.prog w' = .ok (.agg #[.bool ut, .bool ud, .string ⟨ub.toArray⟩]) w') ∧ ((Instr.loadAt 9 (.pointer (some ⟨b, off + j * 7, none⟩))).run Tryd.prog w' = .ok (.string ⟨y.path.toArray⟩) w'))) (by kernel_rfl) ⟨(FB.out _ (hO.suf sfx)).1, (FB.out _ (hO.suf sfx)).2.1, (FB.out _ (hO.suf sfx)).2.2, (f1.out _ (hO.suf sfx)).2.1⟩ (fun hS => ?_)
            refine tV 0 ⟨some 20, .move (.tmp 6), _, _, _, none⟩ hS ?_
            refine tV 1 ⟨some 21, .binOp .neq 44 (.tmp 20) (.const (.int .i64 0)) 44, _, _, _, none⟩ hS ?_
            refine tV 2 ⟨some 22, .move (.tmp 21), _, _, _, none⟩ hS ?_
            refine tV 3 ⟨some 23, .move (.tmp 5), _, _, _, some (2, false)⟩ hS ?_
            refine tV 4 ⟨some 24, .call { callee := .builtin .len, args := #[.tmp 23], argTypes := #[75] }, _, _, _, some (2, false)⟩ hS ?_
            refine tV 5 ⟨some 25, .binOp .eql 3 (.tmp 24) (.const (.int .i64 0)) 3, _, _, _, some (2, false)⟩ hS ?_
            refine tV 6 ⟨some 26, .pick (.tmp 22) (.const (.bool true)) (.tmp 25), _, _, _, none⟩ hS ?_
            refine tV 7 ⟨some 27, .move (.tmp 26), _, _, _, none⟩ hS ?_
            refine tV 8 ⟨some 28, .move (.tmp 3), _, _, _, some (7, false)⟩ hS ?_
            refine tV 9 ⟨some 29, .binOp .gtr 3 (.tmp 28) (.const (.int .i64 0)) 3, _, _, _, some (7, false)⟩ hS ?_
            refine tV 10 ⟨some 30, .move (.tmp 29), _, _, _, some (7, false)⟩ hS ?_
            refine tV 11 ⟨some 31, .move (.tmp 0), _, _, _, some (10, true)⟩ hS ?_
            refine tV 12 ⟨some 32, .move (.tmp 3), _, _, _, some (10, true)⟩ hS ?_
            refine tV 13 ⟨some 33, .binOp .sub 3 (.tmp 32) (.const (.int .i64 1)) 3, _, _, _, some (10, true)⟩ hS ?_
            refine tV 14 ⟨some 34, .indexAddr 30 (.tmp 31) (.tmp 33), _, _, _, some (10, true)⟩ hS ?_
            refine tV 15 ⟨some 35, .fieldAddr 65 (.tmp 34) 0, _, _, _, some (10, true)⟩ hS ?_
            refine tL 16 ⟨some 36, .load 9 (.tmp 35), _, _, _, some (10, true)⟩ hS ?_
            refine tV 17 ⟨some 37, .fieldAddr 65 (.tmp 4) 0, _, _, _, some (10, true)⟩ hS ?_
            refine tL 18 ⟨some 38, .load 9 (.tmp 37), _, _, _, some (10, true)⟩ hS ?_
            refine wpAnyH_ready (rs := [19]) (by kernel_rfl) (by simp) ?_
            refine (AllReadyH.cons (o := ⟨some 39, .call { callee := .value (.func 17), args := #[.tmp 36, .tmp 38], argTypes := #[9, 9] }, _, _, _, some (10, true)⟩) rfl (fun K hK => ?_) AllReadyH.nil)
            (go_simp; refine (HO2.out _ _ hO).mono ?_; clear hO; rintro e w5 ⟨v, h1, h2, hO⟩; cases h1; cases h2)
            refine hK.out _ _ ⟨(FB.out _ (hO.suf sfx)).1, (FB.out _ (hO.suf sfx)).2.1, (FB.out _ (hO.suf sfx)).2.2, (f1.out _ (hO.suf sfx)).2.1⟩ (fun hS => ?_)
            clear hK K
            try simp only [Act.put, sb, s0, sz]
            refine tV 20 ⟨some 40, .binOp .geq 3 (.tmp 39) (.const (.int .i64 0)) 3, _, _, _, some (10, true)⟩ hS ?_
            refine tV 21 ⟨some 41, .pick (.tmp 30) (.tmp 40) (.const (.bool false)), _, _, _, some (7, false)⟩ hS ?_
            refine tV 22 ⟨some 42, .pick (.tmp 27) (.const (.bool true)) (.tmp 41), _, _, _, none⟩ hS ?_
            refine tV 23 ⟨some 43, .move (.tmp 42), _, _, _, none⟩ hS ?_
            refine tV 24 ⟨some 44, .fieldAddr 65 (.tmp 4) 1, _, _, _, some (23, false)⟩ hS ?_
            refine tL 25 ⟨some 45, .load 36 (.tmp 44), _, _, _, some (23, false)⟩ hS ?_
            refine tV 26 ⟨some 46, .fieldAddr 65 (.tmp 4) 2, _, _, _, some (23, false)⟩ hS ?_
            refine tL 27 ⟨some 47, .load 36 (.tmp 46), _, _, _, some (23, false)⟩ hS ?_
            refine tV 28 ⟨some 48, .binOp .eql 36 (.tmp 45) (.tmp 47) 36, _, _, _, some (23, false)⟩ hS ?_
            refine tV 29 ⟨some 49, .pick (.tmp 43) (.const (.bool true)) (.tmp 48), _, _, _, none⟩ hS ?_
            refine tV 30 ⟨some 50, .move (.tmp 49), _, _, _, none⟩ hS ?_
            refine tV 31 ⟨some 51, .fieldAddr 65 (.tmp 4) 1, _, _, _, some (30, false)⟩ hS ?_
            refine tL 32 ⟨some 52, .load 36 (.tmp 51), _, _, _, some (30, false)⟩ hS ?_
            refine wpAnyH_ready (rs := [33]) (by kernel_rfl) (by simp) ?_
            refine (AllReadyH.cons (o := ⟨some 53, .call { callee := .value (.func 63), args := #[.tmp 52], argTypes := #[36] }, _, _, _, some (30, false)⟩) rfl (fun K hK => ?_) AllReadyH.nil)
            (go_simp; refine (HA.out _ _ hO).mono ?_; clear hO; rintro e w5 ⟨v, h1, h2, hO⟩; cases h1; cases h2)
            refine hK.out _ _ ⟨(FB.out _ (hO.suf sfx)).1, (FB.out _ (hO.suf sfx)).2.1, (FB.out _ (hO.suf sfx)).2.2, (f1.out _ (hO.suf sfx)).2.1⟩ (fun hS => ?_)
            clear hK K
            try simp only [Act.put, sb, s0, sz]
            refine tV 34 ⟨some 54, .unOp Go.UnOp.not 4 (.tmp 53), _, _, _, some (30, false)⟩ hS ?_
            refine tV 35 ⟨some 55, .pick (.tmp 50) (.const (.bool true)) (.tmp 54), _, _, _, none⟩ hS ?_
            refine tV 36 ⟨some 56, .move (.tmp 55), _, _, _, none⟩ hS ?_
            refine tU 37 ⟨some 57, .fieldAddr 65 (.tmp 4) 2, _, _, _, some (36, false)⟩ hS ?_
            refine tU 38 ⟨some 58, .load 36 (.tmp 57), _, _, _, some (36, false)⟩ hS ?_
            refine tU 39 ⟨some 59, .call { callee := .value (.func 63), args := #[.tmp 58], argTypes := #[36] }, _, _, _, some (36, false)⟩ hS ?_
            refine tU 40 ⟨some 60, .unOp Go.UnOp.not 4 (.tmp 59), _, _, _, some (36, false)⟩ hS ?_
            refine tV 41 ⟨some 61, .pick (.tmp 56) (.const (.bool true)) (.tmp 60), _, _, _, none⟩ hS ?_
            refine wpAnyH_done (by kernel_rfl) ?_ _
            all_goals
              clear hS hE
              have hE := hO.tail.tail
              clear hO
              go_wp2
              refine bodyPost_ret (results_tmp rfl _ _ _) rfl ?_
              exact ⟨_, rfl, .mk false hE (iff_of_false (by decide) (fun h => by have := (Hst.out.2 h).1; rw [Hb.out] at this; cases this))⟩
          cases m2
          case' false =>
            have Hb := SL.hid (show g = false by rw [Hg.out]; simp)
            have hO := hE.drew
            refine wp_region_held_drew (S := (fun w' => ((Instr.loadAt 9 (.pointer (some ⟨b4, 0, none⟩))).run Tryd.prog w' = .ok (.string ⟨xp.toArray⟩) w') ∧ ((Instr.loadAt 36 (.pointer (some ⟨b4, 1, none⟩))).run Tryd.prog w' = .ok (.agg #[.bool qt, .bool qd, .string ⟨qb.toArray⟩]) w') ∧ ((Instr.loadAt 36 (.pointer (some ⟨b4, 4, none⟩))).run Tryd.prog w' = .ok (.agg #[.bool ut, .bool ud, .string ⟨ub.toArray⟩]) w') ∧ ((Instr.loadAt 9 (.pointer (some ⟨b, off + j * 7, none⟩))).run Tryd.prog w' = .ok (.string ⟨y.path.toArray⟩) w'))) (by kernel_rfl) ⟨(FB.out _ (hO.suf sfx)).1, (FB.out _ (hO.suf sfx)).2.1, (FB.out _ (hO.suf sfx)).2.2, (f1.out _ (hO.suf sfx)).2.1⟩ (fun hS => ?_)
            refine tV 0 ⟨some 20, .move (.tmp 6), _, _, _, none⟩ hS ?_
            refine tV 1 ⟨some 21, .binOp .neq 44 (.tmp 20) (.const (.int .i64 0)) 44, _, _, _, none⟩ hS ?_
            refine tV 2 ⟨some 22, .move (.tmp 21), _, _, _, none⟩ hS ?_
            refine tV 3 ⟨some 23, .move (.tmp 5), _, _, _, some (2, false)⟩ hS ?_
            refine tV 4 ⟨some 24, .call { callee := .builtin .len, args := #[.tmp 23], argTypes := #[75] }, _, _, _, some (2, false)⟩ hS ?_
            refine tV 5 ⟨some 25, .binOp .eql 3 (.tmp 24) (.const (.int .i64 0)) 3, _, _, _, some (2, false)⟩ hS ?_
            refine tV 6 ⟨some 26, .pick (.tmp 22) (.const (.bool true)) (.tmp 25), _, _, _, none⟩ hS ?_
            refine tV 7 ⟨some 27, .move (.tmp 26), _, _, _, none⟩ hS ?_
            refine tV 8 ⟨some 28, .move (.tmp 3), _, _, _, some (7, false)⟩ hS ?_
            refine tV 9 ⟨some 29, .binOp .gtr 3 (.tmp 28) (.const (.int .i64 0)) 3, _, _, _, some (7, false)⟩ hS ?_
            refine tV 10 ⟨some 30, .move (.tmp 29), _, _, _, some (7, false)⟩ hS ?_
            refine tV 11 ⟨some 31, .move (.tmp 0), _, _, _, some (10, true)⟩ hS ?_
            refine tV 12 ⟨some 32, .move (.tmp 3), _, _, _, some (10, true)⟩ hS ?_
            refine tV 13 ⟨some 33, .binOp .sub 3 (.tmp 32) (.const (.int .i64 1)) 3, _, _, _, some (10, true)⟩ hS ?_
            refine tV 14 ⟨some 34, .indexAddr 30 (.tmp 31) (.tmp 33), _, _, _, some (10, true)⟩ hS ?_
            refine tV 15 ⟨some 35, .fieldAddr 65 (.tmp 34) 0, _, _, _, some (10, true)⟩ hS ?_
            refine tL 16 ⟨some 36, .load 9 (.tmp 35), _, _, _, some (10, true)⟩ hS ?_
            refine tV 17 ⟨some 37, .fieldAddr 65 (.tmp 4) 0, _, _, _, some (10, true)⟩ hS ?_
            refine tL 18 ⟨some 38, .load 9 (.tmp 37), _, _, _, some (10, true)⟩ hS ?_
            refine wpAnyH_ready (rs := [19]) (by kernel_rfl) (by simp) ?_
            refine (AllReadyH.cons (o := ⟨some 39, .call { callee := .value (.func 17), args := #[.tmp 36, .tmp 38], argTypes := #[9, 9] }, _, _, _, some (10, true)⟩) rfl (fun K hK => ?_) AllReadyH.nil)
            (go_simp; refine (HO2.out _ _ hO).mono ?_; clear hO; rintro e w5 ⟨v, h1, h2, hO⟩; cases h1; cases h2)
            refine hK.out _ _ ⟨(FB.out _ (hO.suf sfx)).1, (FB.out _ (hO.suf sfx)).2.1, (FB.out _ (hO.suf sfx)).2.2, (f1.out _ (hO.suf sfx)).2.1⟩ (fun hS => ?_)
            clear hK K
            try simp only [Act.put, sb, s0, sz]
            refine tV 20 ⟨some 40, .binOp .geq 3 (.tmp 39) (.const (.int .i64 0)) 3, _, _, _, some (10, true)⟩ hS ?_
            refine tV 21 ⟨some 41, .pick (.tmp 30) (.tmp 40) (.const (.bool false)), _, _, _, some (7, false)⟩ hS ?_
            refine tV 22 ⟨some 42, .pick (.tmp 27) (.const (.bool true)) (.tmp 41), _, _, _, none⟩ hS ?_
            refine tV 23 ⟨some 43, .move (.tmp 42), _, _, _, none⟩ hS ?_
            refine tV 24 ⟨some 44, .fieldAddr 65 (.tmp 4) 1, _, _, _, some (23, false)⟩ hS ?_
            refine tL 25 ⟨some 45, .load 36 (.tmp 44), _, _, _, some (23, false)⟩ hS ?_
            refine tV 26 ⟨some 46, .fieldAddr 65 (.tmp 4) 2, _, _, _, some (23, false)⟩ hS ?_
            refine tL 27 ⟨some 47, .load 36 (.tmp 46), _, _, _, some (23, false)⟩ hS ?_
            refine tV 28 ⟨some 48, .binOp .eql 36 (.tmp 45) (.tmp 47) 36, _, _, _, some (23, false)⟩ hS ?_
            refine tV 29 ⟨some 49, .pick (.tmp 43) (.const (.bool true)) (.tmp 48), _, _, _, none⟩ hS ?_
            refine tV 30 ⟨some 50, .move (.tmp 49), _, _, _, none⟩ hS ?_
            refine tV 31 ⟨some 51, .fieldAddr 65 (.tmp 4) 1, _, _, _, some (30, false)⟩ hS ?_
            refine tL 32 ⟨some 52, .load 36 (.tmp 51), _, _, _, some (30, false)⟩ hS ?_
            refine wpAnyH_ready (rs := [33]) (by kernel_rfl) (by simp) ?_
            refine (AllReadyH.cons (o := ⟨some 53, .call { callee := .value (.func 63), args := #[.tmp 52], argTypes := #[36] }, _, _, _, some (30, false)⟩) rfl (fun K hK => ?_) AllReadyH.nil)
            (go_simp; refine (HA.out _ _ hO).mono ?_; clear hO; rintro e w5 ⟨v, h1, h2, hO⟩; cases h1; cases h2)
            refine hK.out _ _ ⟨(FB.out _ (hO.suf sfx)).1, (FB.out _ (hO.suf sfx)).2.1, (FB.out _ (hO.suf sfx)).2.2, (f1.out _ (hO.suf sfx)).2.1⟩ (fun hS => ?_)
            clear hK K
            try simp only [Act.put, sb, s0, sz]
            refine tV 34 ⟨some 54, .unOp Go.UnOp.not 4 (.tmp 53), _, _, _, some (30, false)⟩ hS ?_
            refine tV 35 ⟨some 55, .pick (.tmp 50) (.const (.bool true)) (.tmp 54), _, _, _, none⟩ hS ?_
            refine tV 36 ⟨some 56, .move (.tmp 55), _, _, _, none⟩ hS ?_
            refine tV 37 ⟨some 57, .fieldAddr 65 (.tmp 4) 2, _, _, _, some (36, false)⟩ hS ?_
            refine tL 38 ⟨some 58, .load 36 (.tmp 57), _, _, _, some (36, false)⟩ hS ?_
            refine wpAnyH_ready (rs := [39]) (by kernel_rfl) (by simp) ?_
            refine (AllReadyH.cons (o := ⟨some 59, .call { callee := .value (.func 63), args := #[.tmp 58], argTypes := #[36] }, _, _, _, some (36, false)⟩) rfl (fun K hK => ?_) AllReadyH.nil)
            (go_simp; refine (HB.out _ _ hO).mono ?_; clear hO; rintro e w5 ⟨v, h1, h2, hO⟩; cases h1; cases h2)
            refine hK.out _ _ ⟨(FB.out _ (hO.suf sfx)).1, (FB.out _ (hO.suf sfx)).2.1, (FB.out _ (hO.suf sfx)).2.2, (f1.out _ (hO.suf sfx)).2.1⟩ (fun hS => ?_)
            clear hK K
            try simp only [Act.put, sb, s0, sz]
            refine tV 40 ⟨some 60, .unOp Go.UnOp.not 4 (.tmp 59), _, _, _, some (36, false)⟩ hS ?_
            refine tV 41 ⟨some 61, .pick (.tmp 56) (.const (.bool true)) (.tmp 60), _, _, _, none⟩ hS ?_
            refine wpAnyH_done (by kernel_rfl) ?_ _
            all_goals
              clear hS hE
              have hE := hO.tail.tail
              clear hO
              go_wp2
              refine bodyPost_ret (results_tmp rfl _ _ _) rfl ?_
              exact ⟨_, rfl, .mk false hE (iff_of_false (by decide) (fun h => by have := (Hst.out.2 h).1; rw [Hb.out] at this; cases this))⟩
          have Hb := SL.hid (show g = true by rw [Hg.out]; simp)
          clear Hg
          have hO := hE.drew
          refine wp_region_held_drew (S := (fun w' => ((Instr.loadAt 9 (.pointer (some ⟨b4, 0, none⟩))).run Tryd.prog w' = .ok (.string ⟨xp.toArray⟩) w') ∧ ((Instr.loadAt 36 (.pointer (some ⟨b4, 1, none⟩))).run Tryd.prog w' = .ok (.agg #[.bool qt, .bool qd, .string ⟨qb.toArray⟩]) w') ∧ ((Instr.loadAt 36 (.pointer (some ⟨b4, 4, none⟩))).run Tryd.prog w' = .ok (.agg #[.bool ut, .bool ud, .string ⟨ub.toArray⟩]) w') ∧ ((Instr.loadAt 9 (.pointer (some ⟨b, off + j * 7, none⟩))).run Tryd.prog w' = .ok (.string ⟨y.path.toArray⟩) w'))) (by kernel_rfl) ⟨(FB.out _ (hO.suf sfx)).1, (FB.out _ (hO.suf sfx)).2.1, (FB.out _ (hO.suf sfx)).2.2, (f1.out _ (hO.suf sfx)).2.1⟩ (fun hS => ?_)
          refine tV 0 ⟨some 20, .move (.tmp 6), _, _, _, none⟩ hS ?_
          refine tV 1 ⟨some 21, .binOp .neq 44 (.tmp 20) (.const (.int .i64 0)) 44, _, _, _, none⟩ hS ?_
          refine tV 2 ⟨some 22, .move (.tmp 21), _, _, _, none⟩ hS ?_
          refine tV 3 ⟨some 23, .move (.tmp 5), _, _, _, some (2, false)⟩ hS ?_
          refine tV 4 ⟨some 24, .call { callee := .builtin .len, args := #[.tmp 23], argTypes := #[75] }, _, _, _, some (2, false)⟩ hS ?_
          refine tV 5 ⟨some 25, .binOp .eql 3 (.tmp 24) (.const (.int .i64 0)) 3, _, _, _, some (2, false)⟩ hS ?_
          refine tV 6 ⟨some 26, .pick (.tmp 22) (.const (.bool true)) (.tmp 25), _, _, _, none⟩ hS ?_
          refine tV 7 ⟨some 27, .move (.tmp 26), _, _, _, none⟩ hS ?_
          refine tV 8 ⟨some 28, .move (.tmp 3), _, _, _, some (7, false)⟩ hS ?_
          refine tV 9 ⟨some 29, .binOp .gtr 3 (.tmp 28) (.const (.int .i64 0)) 3, _, _, _, some (7, false)⟩ hS ?_
          refine tV 10 ⟨some 30, .move (.tmp 29), _, _, _, some (7, false)⟩ hS ?_
          refine tV 11 ⟨some 31, .move (.tmp 0), _, _, _, some (10, true)⟩ hS ?_
          refine tV 12 ⟨some 32, .move (.tmp 3), _, _, _, some (10, true)⟩ hS ?_
          refine tV 13 ⟨some 33, .binOp .sub 3 (.tmp 32) (.const (.int .i64 1)) 3, _, _, _, some (10, true)⟩ hS ?_
          refine tV 14 ⟨some 34, .indexAddr 30 (.tmp 31) (.tmp 33), _, _, _, some (10, true)⟩ hS ?_
          refine tV 15 ⟨some 35, .fieldAddr 65 (.tmp 34) 0, _, _, _, some (10, true)⟩ hS ?_
          refine tL 16 ⟨some 36, .load 9 (.tmp 35), _, _, _, some (10, true)⟩ hS ?_
          refine tV 17 ⟨some 37, .fieldAddr 65 (.tmp 4) 0, _, _, _, some (10, true)⟩ hS ?_
          refine tL 18 ⟨some 38, .load 9 (.tmp 37), _, _, _, some (10, true)⟩ hS ?_
          refine wpAnyH_ready (rs := [19]) (by kernel_rfl) (by simp) ?_
          refine (AllReadyH.cons (o := ⟨some 39, .call { callee := .value (.func 17), args := #[.tmp 36, .tmp 38], argTypes := #[9, 9] }, _, _, _, some (10, true)⟩) rfl (fun K hK => ?_) AllReadyH.nil)
          (go_simp; refine (HO2.out _ _ hO).mono ?_; clear hO; rintro e w5 ⟨v, h1, h2, hO⟩; cases h1; cases h2)
          refine hK.out _ _ ⟨(FB.out _ (hO.suf sfx)).1, (FB.out _ (hO.suf sfx)).2.1, (FB.out _ (hO.suf sfx)).2.2, (f1.out _ (hO.suf sfx)).2.1⟩ (fun hS => ?_)
          clear hK K
          try simp only [Act.put, sb, s0, sz]
          refine tV 20 ⟨some 40, .binOp .geq 3 (.tmp 39) (.const (.int .i64 0)) 3, _, _, _, some (10, true)⟩ hS ?_
          refine tV 21 ⟨some 41, .pick (.tmp 30) (.tmp 40) (.const (.bool false)), _, _, _, some (7, false)⟩ hS ?_
          refine tV 22 ⟨some 42, .pick (.tmp 27) (.const (.bool true)) (.tmp 41), _, _, _, none⟩ hS ?_
          refine tV 23 ⟨some 43, .move (.tmp 42), _, _, _, none⟩ hS ?_
          refine tV 24 ⟨some 44, .fieldAddr 65 (.tmp 4) 1, _, _, _, some (23, false)⟩ hS ?_
          refine tL 25 ⟨some 45, .load 36 (.tmp 44), _, _, _, some (23, false)⟩ hS ?_
          refine tV 26 ⟨some 46, .fieldAddr 65 (.tmp 4) 2, _, _, _, some (23, false)⟩ hS ?_
          refine tL 27 ⟨some 47, .load 36 (.tmp 46), _, _, _, some (23, false)⟩ hS ?_
          refine tV 28 ⟨some 48, .binOp .eql 36 (.tmp 45) (.tmp 47) 36, _, _, _, some (23, false)⟩ hS ?_
          refine tV 29 ⟨some 49, .pick (.tmp 43) (.const (.bool true)) (.tmp 48), _, _, _, none⟩ hS ?_
          refine tV 30 ⟨some 50, .move (.tmp 49), _, _, _, none⟩ hS ?_
          refine tV 31 ⟨some 51, .fieldAddr 65 (.tmp 4) 1, _, _, _, some (30, false)⟩ hS ?_
          refine tL 32 ⟨some 52, .load 36 (.tmp 51), _, _, _, some (30, false)⟩ hS ?_
          refine wpAnyH_ready (rs := [33]) (by kernel_rfl) (by simp) ?_
          refine (AllReadyH.cons (o := ⟨some 53, .call { callee := .value (.func 63), args := #[.tmp 52], argTypes := #[36] }, _, _, _, some (30, false)⟩) rfl (fun K hK => ?_) AllReadyH.nil)
          (go_simp; refine (HA.out _ _ hO).mono ?_; clear hO; rintro e w5 ⟨v, h1, h2, hO⟩; cases h1; cases h2)
          refine hK.out _ _ ⟨(FB.out _ (hO.suf sfx)).1, (FB.out _ (hO.suf sfx)).2.1, (FB.out _ (hO.suf sfx)).2.2, (f1.out _ (hO.suf sfx)).2.1⟩ (fun hS => ?_)
          clear hK K
          try simp only [Act.put, sb, s0, sz]
          refine tV 34 ⟨some 54, .unOp Go.UnOp.not 4 (.tmp 53), _, _, _, some (30, false)⟩ hS ?_
          refine tV 35 ⟨some 55, .pick (.tmp 50) (.const (.bool true)) (.tmp 54), _, _, _, none⟩ hS ?_
          refine tV 36 ⟨some 56, .move (.tmp 55), _, _, _, none⟩ hS ?_
          refine tV 37 ⟨some 57, .fieldAddr 65 (.tmp 4) 2, _, _, _, some (36, false)⟩ hS ?_
          refine tL 38 ⟨some 58, .load 36 (.tmp 57), _, _, _, some (36, false)⟩ hS ?_
          refine wpAnyH_ready (rs := [39]) (by kernel_rfl) (by simp) ?_
          refine (AllReadyH.cons (o := ⟨some 59, .call { callee := .value (.func 63), args := #[.tmp 58], argTypes := #[36] }, _, _, _, some (36, false)⟩) rfl (fun K hK => ?_) AllReadyH.nil)
          (go_simp; refine (HB.out _ _ hO).mono ?_; clear hO; rintro e w5 ⟨v, h1, h2, hO⟩; cases h1; cases h2)
          refine hK.out _ _ ⟨(FB.out _ (hO.suf sfx)).1, (FB.out _ (hO.suf sfx)).2.1, (FB.out _ (hO.suf sfx)).2.2, (f1.out _ (hO.suf sfx)).2.1⟩ (fun hS => ?_)
          clear hK K
          try simp only [Act.put, sb, s0, sz]
          refine tV 40 ⟨some 60, .unOp Go.UnOp.not 4 (.tmp 59), _, _, _, some (36, false)⟩ hS ?_
          refine tV 41 ⟨some 61, .pick (.tmp 56) (.const (.bool true)) (.tmp 60), _, _, _, none⟩ hS ?_
          refine wpAnyH_done (by kernel_rfl) ?_ _
          all_goals
            clear hS hE
            have hE := hO.tail.tail
            clear hO
            go_wp2
            go_roundw
            case rel => exact ⟨j + 1 + 1, hlt, by first | rfl | simp, Hst.out.1.2 ⟨Hb.out, fun z hz => by rw [Hla.out] at hz; cases hz; exact Hls.out⟩, hE⟩
            case measure => simp [intOf] <;> omega
        · have Hls := SL.hid h1
          rw [ho] at HO2
          clear ho h1 h2 hyl
          have hO := hE.drew
          refine wp_region_held_drew (S := (fun w' => ((Instr.loadAt 9 (.pointer (some ⟨b4, 0, none⟩))).run Tryd.prog w' = .ok (.string ⟨xp.toArray⟩) w') ∧ ((Instr.loadAt 36 (.pointer (some ⟨b4, 1, none⟩))).run Tryd.prog w' = .ok (.agg #[.bool qt, .bool qd, .string ⟨qb.toArray⟩]) w') ∧ ((Instr.loadAt 36 (.pointer (some ⟨b4, 4, none⟩))).run Tryd.prog w' = .ok (.agg #[.bool ut, .bool ud, .string ⟨ub.toArray⟩]) w') ∧ ((Instr.loadAt 9 (.pointer (some ⟨b, off + j * 7, none⟩))).run Tryd.prog w' = .ok (.string ⟨y.path.toArray⟩) w'))) (by kernel_rfl) ⟨(FB.out _ (hO.suf sfx)).1, (FB.out _ (hO.suf sfx)).2.1, (FB.out _ (hO.suf sfx)).2.2, (f1.out _ (hO.suf sfx)).2.1⟩ (fun hS => ?_)
          refine tV 0 ⟨some 20, .move (.tmp 6), _, _, _, none⟩ hS ?_
          refine tV 1 ⟨some 21, .binOp .neq 44 (.tmp 20) (.const (.int .i64 0)) 44, _, _, _, none⟩ hS ?_
          refine tV 2 ⟨some 22, .move (.tmp 21), _, _, _, none⟩ hS ?_
          refine tV 3 ⟨some 23, .move (.tmp 5), _, _, _, some (2, false)⟩ hS ?_
          refine tV 4 ⟨some 24, .call { callee := .builtin .len, args := #[.tmp 23], argTypes := #[75] }, _, _, _, some (2, false)⟩ hS ?_
          refine tV 5 ⟨some 25, .binOp .eql 3 (.tmp 24) (.const (.int .i64 0)) 3, _, _, _, some (2, false)⟩ hS ?_
          refine tV 6 ⟨some 26, .pick (.tmp 22) (.const (.bool true)) (.tmp 25), _, _, _, none⟩ hS ?_
          refine tV 7 ⟨some 27, .move (.tmp 26), _, _, _, none⟩ hS ?_
          refine tV 8 ⟨some 28, .move (.tmp 3), _, _, _, some (7, false)⟩ hS ?_
          refine tV 9 ⟨some 29, .binOp .gtr 3 (.tmp 28) (.const (.int .i64 0)) 3, _, _, _, some (7, false)⟩ hS ?_
          refine tV 10 ⟨some 30, .move (.tmp 29), _, _, _, some (7, false)⟩ hS ?_
          refine tV 11 ⟨some 31, .move (.tmp 0), _, _, _, some (10, true)⟩ hS ?_
          refine tV 12 ⟨some 32, .move (.tmp 3), _, _, _, some (10, true)⟩ hS ?_
          refine tV 13 ⟨some 33, .binOp .sub 3 (.tmp 32) (.const (.int .i64 1)) 3, _, _, _, some (10, true)⟩ hS ?_
          refine tV 14 ⟨some 34, .indexAddr 30 (.tmp 31) (.tmp 33), _, _, _, some (10, true)⟩ hS ?_
          refine tV 15 ⟨some 35, .fieldAddr 65 (.tmp 34) 0, _, _, _, some (10, true)⟩ hS ?_
          refine tL 16 ⟨some 36, .load 9 (.tmp 35), _, _, _, some (10, true)⟩ hS ?_
          refine tV 17 ⟨some 37, .fieldAddr 65 (.tmp 4) 0, _, _, _, some (10, true)⟩ hS ?_
          refine tL 18 ⟨some 38, .load 9 (.tmp 37), _, _, _, some (10, true)⟩ hS ?_
          refine wpAnyH_ready (rs := [19]) (by kernel_rfl) (by simp) ?_
          refine (AllReadyH.cons (o := ⟨some 39, .call { callee := .value (.func 17), args := #[.tmp 36, .tmp 38], argTypes := #[9, 9] }, _, _, _, some (10, true)⟩) rfl (fun K hK => ?_) AllReadyH.nil)
          (go_simp; refine (HO2.out _ _ hO).mono ?_; clear hO; rintro e w5 ⟨v, h1, h2, hO⟩; cases h1; cases h2)
          refine hK.out _ _ ⟨(FB.out _ (hO.suf sfx)).1, (FB.out _ (hO.suf sfx)).2.1, (FB.out _ (hO.suf sfx)).2.2, (f1.out _ (hO.suf sfx)).2.1⟩ (fun hS => ?_)
          clear hK K
          try simp only [Act.put, sb, s0, sz]
          refine tV 20 ⟨some 40, .binOp .geq 3 (.tmp 39) (.const (.int .i64 0)) 3, _, _, _, some (10, true)⟩ hS ?_
          refine tV 21 ⟨some 41, .pick (.tmp 30) (.tmp 40) (.const (.bool false)), _, _, _, some (7, false)⟩ hS ?_
          refine tV 22 ⟨some 42, .pick (.tmp 27) (.const (.bool true)) (.tmp 41), _, _, _, none⟩ hS ?_
          refine tV 23 ⟨some 43, .move (.tmp 42), _, _, _, none⟩ hS ?_
          refine tU 24 ⟨some 44, .fieldAddr 65 (.tmp 4) 1, _, _, _, some (23, false)⟩ hS ?_
          refine tU 25 ⟨some 45, .load 36 (.tmp 44), _, _, _, some (23, false)⟩ hS ?_
          refine tU 26 ⟨some 46, .fieldAddr 65 (.tmp 4) 2, _, _, _, some (23, false)⟩ hS ?_
          refine tU 27 ⟨some 47, .load 36 (.tmp 46), _, _, _, some (23, false)⟩ hS ?_
          refine tU 28 ⟨some 48, .binOp .eql 36 (.tmp 45) (.tmp 47) 36, _, _, _, some (23, false)⟩ hS ?_
          refine tV 29 ⟨some 49, .pick (.tmp 43) (.const (.bool true)) (.tmp 48), _, _, _, none⟩ hS ?_
          refine tV 30 ⟨some 50, .move (.tmp 49), _, _, _, none⟩ hS ?_
          refine tU 31 ⟨some 51, .fieldAddr 65 (.tmp 4) 1, _, _, _, some (30, false)⟩ hS ?_
          refine tU 32 ⟨some 52, .load 36 (.tmp 51), _, _, _, some (30, false)⟩ hS ?_
          refine tU 33 ⟨some 53, .call { callee := .value (.func 63), args := #[.tmp 52], argTypes := #[36] }, _, _, _, some (30, false)⟩ hS ?_
          refine tU 34 ⟨some 54, .unOp Go.UnOp.not 4 (.tmp 53), _, _, _, some (30, false)⟩ hS ?_
          refine tV 35 ⟨some 55, .pick (.tmp 50) (.const (.bool true)) (.tmp 54), _, _, _, none⟩ hS ?_
          refine tV 36 ⟨some 56, .move (.tmp 55), _, _, _, none⟩ hS ?_
          refine tU 37 ⟨some 57, .fieldAddr 65 (.tmp 4) 2, _, _, _, some (36, false)⟩ hS ?_
          refine tU 38 ⟨some 58, .load 36 (.tmp 57), _, _, _, some (36, false)⟩ hS ?_
          refine tU 39 ⟨some 59, .call { callee := .value (.func 63), args := #[.tmp 58], argTypes := #[36] }, _, _, _, some (36, false)⟩ hS ?_
          refine tU 40 ⟨some 60, .unOp Go.UnOp.not 4 (.tmp 59), _, _, _, some (36, false)⟩ hS ?_
          refine tV 41 ⟨some 61, .pick (.tmp 56) (.const (.bool true)) (.tmp 60), _, _, _, none⟩ hS ?_
          refine wpAnyH_done (by kernel_rfl) ?_ _
          all_goals
            clear hS hE
            have hE := hO.tail.tail
            clear hO
            go_wp2
            refine bodyPost_ret (results_tmp rfl _ _ _) rfl ?_
            exact ⟨_, rfl, .mk false hE (iff_of_false (by decide) (fun h => by have := (Hst.out.2 h).2 _ Hla.out; rw [Hls.out] at this; cases this))⟩
        · have Hls := SL.hid h1
          rw [ho] at HO2
          clear ho h1 h2 hyl
          have hO := hE.drew
          refine wp_region_held_drew (S := (fun w' => ((Instr.loadAt 9 (.pointer (some ⟨b4, 0, none⟩))).run Tryd.prog w' = .ok (.string ⟨xp.toArray⟩) w') ∧ ((Instr.loadAt 36 (.pointer (some ⟨b4, 1, none⟩))).run Tryd.prog w' = .ok (.agg #[.bool qt, .bool qd, .string ⟨qb.toArray⟩]) w') ∧ ((Instr.loadAt 36 (.pointer (some ⟨b4, 4, none⟩))).run Tryd.prog w' = .ok (.agg #[.bool ut, .bool ud, .string ⟨ub.toArray⟩]) w') ∧ ((Instr.loadAt 9 (.pointer (some ⟨b, off + j * 7, none⟩))).run Tryd.prog w' = .ok (.string ⟨y.path.toArray⟩) w'))) (by kernel_rfl) ⟨(FB.out _ (hO.suf sfx)).1, (FB.out _ (hO.suf sfx)).2.1, (FB.out _ (hO.suf sfx)).2.2, (f1.out _ (hO.suf sfx)).2.1⟩ (fun hS => ?_)
          refine tV 0 ⟨some 20, .move (.tmp 6), _, _, _, none⟩ hS ?_
          refine tV 1 ⟨some 21, .binOp .neq 44 (.tmp 20) (.const (.int .i64 0)) 44, _, _, _, none⟩ hS ?_
          refine tV 2 ⟨some 22, .move (.tmp 21), _, _, _, none⟩ hS ?_
          refine tV 3 ⟨some 23, .move (.tmp 5), _, _, _, some (2, false)⟩ hS ?_
          refine tV 4 ⟨some 24, .call { callee := .builtin .len, args := #[.tmp 23], argTypes := #[75] }, _, _, _, some (2, false)⟩ hS ?_
          refine tV 5 ⟨some 25, .binOp .eql 3 (.tmp 24) (.const (.int .i64 0)) 3, _, _, _, some (2, false)⟩ hS ?_
          refine tV 6 ⟨some 26, .pick (.tmp 22) (.const (.bool true)) (.tmp 25), _, _, _, none⟩ hS ?_
          refine tV 7 ⟨some 27, .move (.tmp 26), _, _, _, none⟩ hS ?_
          refine tV 8 ⟨some 28, .move (.tmp 3), _, _, _, some (7, false)⟩ hS ?_
          refine tV 9 ⟨some 29, .binOp .gtr 3 (.tmp 28) (.const (.int .i64 0)) 3, _, _, _, some (7, false)⟩ hS ?_
          refine tV 10 ⟨some 30, .move (.tmp 29), _, _, _, some (7, false)⟩ hS ?_
          refine tV 11 ⟨some 31, .move (.tmp 0), _, _, _, some (10, true)⟩ hS ?_
          refine tV 12 ⟨some 32, .move (.tmp 3), _, _, _, some (10, true)⟩ hS ?_
          refine tV 13 ⟨some 33, .binOp .sub 3 (.tmp 32) (.const (.int .i64 1)) 3, _, _, _, some (10, true)⟩ hS ?_
          refine tV 14 ⟨some 34, .indexAddr 30 (.tmp 31) (.tmp 33), _, _, _, some (10, true)⟩ hS ?_
          refine tV 15 ⟨some 35, .fieldAddr 65 (.tmp 34) 0, _, _, _, some (10, true)⟩ hS ?_
          refine tL 16 ⟨some 36, .load 9 (.tmp 35), _, _, _, some (10, true)⟩ hS ?_
          refine tV 17 ⟨some 37, .fieldAddr 65 (.tmp 4) 0, _, _, _, some (10, true)⟩ hS ?_
          refine tL 18 ⟨some 38, .load 9 (.tmp 37), _, _, _, some (10, true)⟩ hS ?_
          refine wpAnyH_ready (rs := [19]) (by kernel_rfl) (by simp) ?_
          refine (AllReadyH.cons (o := ⟨some 39, .call { callee := .value (.func 17), args := #[.tmp 36, .tmp 38], argTypes := #[9, 9] }, _, _, _, some (10, true)⟩) rfl (fun K hK => ?_) AllReadyH.nil)
          (go_simp; refine (HO2.out _ _ hO).mono ?_; clear hO; rintro e w5 ⟨v, h1, h2, hO⟩; cases h1; cases h2)
          refine hK.out _ _ ⟨(FB.out _ (hO.suf sfx)).1, (FB.out _ (hO.suf sfx)).2.1, (FB.out _ (hO.suf sfx)).2.2, (f1.out _ (hO.suf sfx)).2.1⟩ (fun hS => ?_)
          clear hK K
          try simp only [Act.put, sb, s0, sz]
          refine tV 20 ⟨some 40, .binOp .geq 3 (.tmp 39) (.const (.int .i64 0)) 3, _, _, _, some (10, true)⟩ hS ?_
          refine tV 21 ⟨some 41, .pick (.tmp 30) (.tmp 40) (.const (.bool false)), _, _, _, some (7, false)⟩ hS ?_
          refine tV 22 ⟨some 42, .pick (.tmp 27) (.const (.bool true)) (.tmp 41), _, _, _, none⟩ hS ?_
          refine tV 23 ⟨some 43, .move (.tmp 42), _, _, _, none⟩ hS ?_
          refine tU 24 ⟨some 44, .fieldAddr 65 (.tmp 4) 1, _, _, _, some (23, false)⟩ hS ?_
          refine tU 25 ⟨some 45, .load 36 (.tmp 44), _, _, _, some (23, false)⟩ hS ?_
          refine tU 26 ⟨some 46, .fieldAddr 65 (.tmp 4) 2, _, _, _, some (23, false)⟩ hS ?_
          refine tU 27 ⟨some 47, .load 36 (.tmp 46), _, _, _, some (23, false)⟩ hS ?_
          refine tU 28 ⟨some 48, .binOp .eql 36 (.tmp 45) (.tmp 47) 36, _, _, _, some (23, false)⟩ hS ?_
          refine tV 29 ⟨some 49, .pick (.tmp 43) (.const (.bool true)) (.tmp 48), _, _, _, none⟩ hS ?_
          refine tV 30 ⟨some 50, .move (.tmp 49), _, _, _, none⟩ hS ?_
          refine tU 31 ⟨some 51, .fieldAddr 65 (.tmp 4) 1, _, _, _, some (30, false)⟩ hS ?_
          refine tU 32 ⟨some 52, .load 36 (.tmp 51), _, _, _, some (30, false)⟩ hS ?_
          refine tU 33 ⟨some 53, .call { callee := .value (.func 63), args := #[.tmp 52], argTypes := #[36] }, _, _, _, some (30, false)⟩ hS ?_
          refine tU 34 ⟨some 54, .unOp Go.UnOp.not 4 (.tmp 53), _, _, _, some (30, false)⟩ hS ?_
          refine tV 35 ⟨some 55, .pick (.tmp 50) (.const (.bool true)) (.tmp 54), _, _, _, none⟩ hS ?_
          refine tV 36 ⟨some 56, .move (.tmp 55), _, _, _, none⟩ hS ?_
          refine tU 37 ⟨some 57, .fieldAddr 65 (.tmp 4) 2, _, _, _, some (36, false)⟩ hS ?_
          refine tU 38 ⟨some 58, .load 36 (.tmp 57), _, _, _, some (36, false)⟩ hS ?_
          refine tU 39 ⟨some 59, .call { callee := .value (.func 63), args := #[.tmp 58], argTypes := #[36] }, _, _, _, some (36, false)⟩ hS ?_
          refine tU 40 ⟨some 60, .unOp Go.UnOp.not 4 (.tmp 59), _, _, _, some (36, false)⟩ hS ?_
          refine tV 41 ⟨some 61, .pick (.tmp 56) (.const (.bool true)) (.tmp 60), _, _, _, none⟩ hS ?_
          refine wpAnyH_done (by kernel_rfl) ?_ _
          all_goals
            clear hS hE
            have hE := hO.tail.tail
            clear hO
            go_wp2
            refine bodyPost_ret (results_tmp rfl _ _ _) rfl ?_
            exact ⟨_, rfl, .mk false hE (iff_of_false (by decide) (fun h => by have := (Hst.out.2 h).2 _ Hla.out; rw [Hls.out] at this; cases this))⟩
    · obtain rfl : k = es.length := by omega
      rw [List.take_length] at hpre
      have R := SL.hid hpre
      clear hpre
      go_wp2
      refine bodyPost_ret (results_tmp rfl _ _ _) rfl ?_
      exact ⟨_, rfl, .mk true hE (iff_of_true rfl R.out)⟩
end Go.Proofs.YtcpgelpajppgdaaDoor
namespace Go.Proofs.YtcpgelpajppgdaaDoor
open Go.RowKit Go.SL

theorem kid_cell {b : Nat} {x y v : Value} {R : List HProp} {w : World} (_ : Ent (pt b (.cells #[x, y, v] 25) :: R) w) : ∀ w, Ent (pt b (.cells #[x, y, v] 25) :: R) w → (Instr.loadAt 23 (.pointer (some ⟨b, 2, none⟩))).run Tryd.prog w = .ok v w := fun _ h => run_load1 h 0 rfl (by simp [go_sem]) rfl
theorem side_field (x y : Value) (b : List UInt8) (w : World) : (Instr.field 36 (.agg #[x, y, .string ⟨b.toArray⟩]) 2).run Tryd.prog w = .ok (.string ⟨b.toArray⟩) w := by
  have ht : Tryd.prog.underlying 36 = some (.struct (Tryd.prog.fieldsOf 36)) := by kernel_rfl
  have hf : ((Tryd.prog.fieldsOf 36)[2]?).map (fun f => (f.type, f.offset)) = some (9, 2) := by kernel_rfl
  obtain ⟨f, h1, h2⟩ := Option.map_eq_some_iff.1 hf
  simp only [Prod.mk.injEq] at h2
  have hA : ∀ w, (isAgg 9).run Tryd.prog w = .ok false w := fun w => by simp [go_sem]
  have hA : ∀ w, (isAgg f.type).run Tryd.prog w = .ok false w := fun w => by rw [h2.1]; exact hA w
  simp [Instr.field, run_underlying ht, h1, part, hA, h2.2, asAgg]
theorem row_knows {ao : Option Addr} {c : Nat} {xs : List Ch} {R : List HProp} {w : World} (_ : Ent (rowCh ao c xs :: R) w) : Knows (rowCh ao c xs :: R) (reads (.slice ao xs.length c) xs.length (xs.flatMap chC)) := fun _ h => reads_row h 0 rfl
theorem wl_loads {L : List HProp} {a : Option Addr} {c : Nat} (hk : Knows L (reads (.slice a 2 c) 2 (wl.flatMap chC))) {w : World} (hE : Ent L w) : ∃ g o, a = some ⟨g, o, none⟩ ∧ ∀ w, Ent L w →
    (Instr.loadAt 65 (.pointer (some ⟨g, o, none⟩))).run Tryd.prog w = .ok (.agg #[.string ⟨#[100]⟩, .bool true, .bool true, .string ⟨#[]⟩, .bool true, .bool false, .string ⟨#[97, 98]⟩]) w ∧
    (Instr.loadAt 9 (.pointer (some ⟨g, o + 7, none⟩))).run Tryd.prog w = .ok (.string ⟨#[100, 47, 120]⟩) w ∧
    (Instr.loadAt 4 (.pointer (some ⟨g, o + 7 + 4, none⟩))).run Tryd.prog w = .ok (.bool false) w := by
  obtain ⟨g, o, rfl, _⟩ := ch_at (xs := wl) (hk _ hE) (k := 0) (by decide)
  refine ⟨g, o, rfl, fun w h => ?_⟩
  have h0 := (load_dc (xs := wl) (hk w h) (k := 0) (by decide)).1
  have h1 := (load_dc (xs := wl) (hk w h) (k := 1) (by decide)).2.1
  obtain ⟨b', o', e, hz⟩ := ch_at (xs := wl) (hk w h) (k := 1) (by decide)
  cases e
  rw [Nat.zero_mul, Nat.add_zero] at h0
  rw [Nat.one_mul] at h1
  have h2 := hz 4 (.bool false) rfl
  rw [Nat.one_mul] at h2
  exact ⟨h0, h1, atCell h2 (by simp [go_sem])⟩
theorem kid_data {L : List HProp} {a : Option Addr} {c : Nat} (hk : KidsAt L (.slice a 1 c) W2.kids) {w : World} (hE : Ent L w) : ∃ g o, a = some ⟨g, o, none⟩ ∧ ∀ w, Ent L w → (Instr.loadAt 9 (.pointer (some ⟨g, o + 1 + 1, none⟩))).run Tryd.prog w = .ok (.string ⟨#[97, 98]⟩) w := by
  obtain ⟨ao, c', vs, e, _, hl, hr, _, _⟩ := hk.open
  cases e
  obtain ⟨v, rfl⟩ : ∃ v, vs = [v] := by
    match vs, hl with
    | [v], _ => exact ⟨v, rfl⟩
  obtain ⟨g, o, rfl, _⟩ := reads_form (hr _ hE) (by decide) (by rw [kCs_len rfl]; decide)
  refine ⟨g, o, rfl, fun w h => ?_⟩
  obtain ⟨b', o', e, hz⟩ := reads_form (hr w h) (by decide) (by rw [kCs_len rfl]; decide)
  cases e
  exact atCell (hz 2 (.string ⟨#[97, 98]⟩) rfl) (by simp [go_sem])
set_option maxRecDepth 100000 in
set_option maxHeartbeats 8000000 in
attribute [-go_sem] Instr.loadAt Go.run_equalIn_agg in
theorem wakes28_any {l : List HProp} {w : World} (hE : Ent l w) : Calls Tryd.prog 9 #[] w (Ret fun v w' => v = .bool true ∧ ∃ m, Ent (m ++ l) w') := by
  have HB1 := SL.hid (fun (b : Nat) (L : List HProp) (w : World) (hE : Ent (pt b (.cells #[.string ⟨#[100]⟩, .bool true, .string ⟨#[]⟩, .string ⟨#[100, 47, 120]⟩, .bool false, .string ⟨#[97, 98]⟩] 63) :: L) w) =>
    show Calls Tryd.prog 29 #[.slice (some ⟨b, 0, none⟩) 2 2] w (Ret fun v w' => ∃ m a c, v = .tuple #[.agg #[.bool true, .string ⟨#[]⟩, .slice a 1 c], .int .i64 0] ∧ Ent (m ++ L) w' ∧ KidsAt (m ++ L) (.slice a 1 c) W1.kids) from by
      refine (Build_any (es := we1) (by decide) (fun x hx => by simp only [we1, List.mem_cons, List.not_mem_nil, or_false] at hx; rcases hx with rfl | rfl <;> exact ⟨by decide, by decide⟩) (fun w h => reads_pt h 0 rfl (off := 0) (fun j u hu => by rw [Nat.zero_add, List.getElem?_toArray]; exact hu)) hE).mono ?_
      rintro e w' ⟨v, rfl, m, kv, h, hE, hk⟩
      rw [wb1] at h hk
      obtain ⟨a, c, rfl⟩ := hk.slice
      exact ⟨_, rfl, m ++ [pt b (.cells #[.string ⟨#[100]⟩, .bool true, .string ⟨#[]⟩, .string ⟨#[100, 47, 120]⟩, .bool false, .string ⟨#[97, 98]⟩] 63)], a, c, h, by rw [List.append_assoc]; exact hE, by rw [List.append_assoc]; exact hk⟩)
  have HB2 := SL.hid (fun (b : Nat) (L : List HProp) (w : World) (hE : Ent (pt b (.cells #[.string ⟨#[100]⟩, .bool false, .string ⟨#[97, 98]⟩] 63) :: L) w) =>
    show Calls Tryd.prog 29 #[.slice (some ⟨b, 0, none⟩) 1 1] w (Ret fun v w' => ∃ m a c, v = .tuple #[.agg #[.bool true, .string ⟨#[]⟩, .slice a 1 c], .int .i64 0] ∧ Ent (m ++ L) w' ∧ KidsAt (m ++ L) (.slice a 1 c) W2.kids) from by
      refine (Build_any (es := we2) (by decide) (fun x hx => by simp only [we2, List.mem_cons, List.not_mem_nil, or_false] at hx; subst hx; exact ⟨by decide, by decide⟩) (fun w h => reads_pt h 0 rfl (off := 0) (fun j u hu => by rw [Nat.zero_add, List.getElem?_toArray]; exact hu)) hE).mono ?_
      rintro e w' ⟨v, rfl, m, kv, h, hE, hk⟩
      rw [wb2] at h hk
      obtain ⟨a, c, rfl⟩ := hk.slice
      exact ⟨_, rfl, m ++ [pt b (.cells #[.string ⟨#[100]⟩, .bool false, .string ⟨#[97, 98]⟩] 63)], a, c, h, by rw [List.append_assoc]; exact hE, by rw [List.append_assoc]; exact hk⟩)
  have HD := SL.hid (fun (a a2 : Option Addr) (c c2 : Nat) (L : List HProp) (w : World) (hk : KidsAt L (.slice a 1 c) W1.kids) (hk2 : KidsAt L (.slice a2 1 c2) W2.kids) (hE : Ent L w) =>
    show Calls Tryd.prog 11 #[.agg #[.bool true, .string ⟨#[]⟩, .slice a 1 c], .agg #[.bool true, .string ⟨#[]⟩, .slice a2 1 c2]] w (Ret fun v w' => ∃ ao c m, v = .slice ao 2 c ∧ Ent (rowCh ao c wl :: (m ++ L)) w') from by
      have h := Diff_any ww1 ww2 (by rw [wa1]; decide) (by rw [wa2]; decide) hk hk2 hE
      rw [wa1, wa2, wd] at h
      exact h)
  have HP1 := SL.hid (fun (a : Option Addr) (c : Nat) (a2 : Option Addr) (c2 : Nat) (hc2 : 2 ≤ c2) (L : List HProp) (w : World) (hk : KidsAt L (.slice a 1 c) W1.kids) (hr : Knows L (reads (.slice a2 2 c2) 2 (wl.flatMap chC))) (hE : Ent L w) =>
    show Calls Tryd.prog 20 #[.agg #[.bool true, .string ⟨#[]⟩, .slice a 1 c], .slice a2 2 c2] w (Ret fun v w' => ∃ m a c, v = .tuple #[.agg #[.bool true, .string ⟨#[]⟩, .slice a 1 c], .int .i64 0] ∧ Ent (m ++ L) w' ∧ KidsAt (m ++ L) (.slice a 1 c) W2.kids) from by
      have h := Apply_in ww1 (cs := wl) (by rw [wa1]; decide) (by rw [wa1]; exact wlen3) wlen1 (ao := a2) (c := c2) hc2 hk (fun L' w' hs h => may_any (by decide) (fun x hx => (wlen1 x hx).1) (hr.suf hs) h) hr hE
      rw [wa1, wap1] at h
      refine h.mono ?_
      rintro e w' ⟨v, rfl, m, a', c', h, hE, hk⟩
      exact ⟨_, rfl, m, a', c', h, hE, hk⟩)
  have HP2 := SL.hid (fun (a : Option Addr) (c : Nat) (a2 : Option Addr) (c2 : Nat) (hc2 : 2 ≤ c2) (L : List HProp) (w : World) (hk : KidsAt L (.slice a 1 c) W1.kids) (hr : Knows L (reads (.slice a2 2 c2) 2 (wm.flatMap chC))) (hE : Ent L w) =>
    show Calls Tryd.prog 20 #[.agg #[.bool true, .string ⟨#[]⟩, .slice a 1 c], .slice a2 2 c2] w (Ret fun v w' => ∃ m a c, v = .tuple #[.agg #[.bool false, .string ⟨#[]⟩, .slice a 0 c], .int .i64 10] ∧ Ent (m ++ L) w') from by
      have h := Apply_in ww1 (cs := wm) (by rw [wa1]; decide) (by rw [wa1]; exact wlen3) wlen2 (ao := a2) (c := c2) hc2 hk (fun L' w' hs h => may_any (by decide) (fun x hx => (wlen2 x hx).1) (hr.suf hs) h) hr hE
      rw [wa1, wap2] at h
      refine h.mono ?_
      rintro e w' ⟨v, rfl, m, a', c', h, hE, hk⟩
      exact ⟨_, rfl, m, a', c', h, hE⟩)
  have HR := SL.hid (fun (a2 : Option Addr) (c2 : Nat) (L : List HProp) (w : World) (hr : Knows L (reads (.slice a2 2 c2) 2 (wl.flatMap chC))) (hE : Ent L w) =>
    show Calls Tryd.prog 26 #[.slice a2 2 c2] w (Ret fun v w' => ∃ ao c, v = .tuple #[.slice ao 2 c, .int .i64 0] ∧ Ent (rowCh ao c wm :: L) w') from by
      have h := Reverse_in (es := wl) (by decide) (ao := a2) (c := c2) (fun w' h => may_any (by decide) (fun x hx => (wlen1 x hx).1) hr h) hr hE
      rw [wrv1, wrv2] at h
      exact h)
  have HC := SL.hid (fun (a2 : Option Addr) (c2 : Nat) (a3 : Option Addr) (c3 : Nat) (hc2 : 2 ≤ c2) (hc3 : 2 ≤ c3) (L : List HProp) (w : World) (hr : Knows L (reads (.slice a2 2 c2) 2 (wl.flatMap chC))) (hr2 : Knows L (reads (.slice a3 2 c3) 2 (wm.flatMap chC))) (hE : Ent L w) =>
    show Calls Tryd.prog 24 #[.slice a2 2 c2, .slice a3 2 c3] w (Ret fun v w' => ∃ ao c m, v = .tuple #[.slice ao 0 c, .int .i64 0] ∧ Ent (m ++ L) w') from by
      have h := Compose_in (a := wl) (b := wm) (by decide) (by decide) (fun x hx => (wlen1 x hx).1) (fun x hx => (wlen2 x hx).1) (aa := a2) (ab := a3) (ca := c2) (cb := c3) hc2 hc3 (fun w' h => may_any (by decide) (fun x hx => (wlen1 x hx).1) hr h) (fun w' h => may_any (by decide) (fun x hx => (wlen2 x hx).1) hr2 h) hr hr2 hE
      rw [wcm1, wcm2] at h
      refine h.mono ?_
      rintro e w' ⟨v, rfl, ao, c, m, h, hE⟩
      exact ⟨_, rfl, ao, c, m, h, hE.tail⟩)
  have HO := SL.hid (fun (L : List HProp) (w : World) (hE : Ent L w) =>
    show Calls Tryd.prog 17 #[.string ⟨#[97, 47, 98]⟩, .string ⟨#[97, 33]⟩] w (Ret fun v w' => v = .int .i64 (-1) ∧ Ent L w') from by
      have h := Order_any (p := [97, 47, 98]) (q := [97, 33]) (by decide) (by decide) hE
      rw [word] at h
      exact h)
  have HF := SL.hid (fun (a : Option Addr) (c : Nat) (L : List HProp) (w : World) (hk : KidsAt L (.slice a 1 c) W1.kids) (hE : Ent L w) =>
    show Calls Tryd.prog 14 #[.agg #[.bool true, .string ⟨#[]⟩, .slice a 1 c], .string ⟨#[100, 47, 120]⟩] w (Ret fun v w' => v = .agg #[.bool true, .bool false, .string ⟨#[97, 98]⟩] ∧ ∃ m, Ent (m ++ L) w') from by
      have h := Of_any ww1 (p := [100, 47, 120]) (by decide) hk hE
      rw [wof] at h
      exact h)
  have hEq : ∀ w, (Op.equalIn 10000 65 (.agg #[.string ⟨#[100]⟩, .bool true, .bool true, .string ⟨#[]⟩, .bool true, .bool false, .string ⟨#[97, 98]⟩]) (.agg #[.string ⟨#[100]⟩, .bool true, .bool true, .string ⟨#[]⟩, .bool true, .bool false, .string ⟨#[97, 98]⟩])).run Tryd.prog w = .ok true w := fun w => by
    have := eqCh ⟨[100], ⟨true, true, []⟩, ⟨true, false, [97, 98]⟩⟩ ⟨[100], ⟨true, true, []⟩, ⟨true, false, [97, 98]⟩⟩ w
    rwa [beq_self_eq_true] at this
  have hfld := side_field (.bool true) (.bool false) [97, 98]
  have A1 := SL.hid True.intro
  have A2 := SL.hid True.intro
  go_enter Tryd.func9, Tryd.ntmps9
  go_wp2_with (first
    | go_skip
    | ((with_reducible (show Go.wpList _ _ _ (Go.Oper.mk _ (.buildSlice 22 2 _) _ _ _ _ :: _) _ _)); refine wpl_build2 hE rfl rfl (xs := [.string ⟨#[100]⟩, .bool true, .string ⟨#[]⟩]) (ys := [.string ⟨#[100, 47, 120]⟩, .bool false, .string ⟨#[97, 98]⟩]) rfl rfl Tryd.underlying22 zs_en Tryd.sizeOf63 (by decide) (by decide) rfl rfl ?_; clear hE; intro s1 w hE)
    | ((with_reducible (show Go.wpList _ _ _ (Go.Oper.mk _ (.buildSlice 22 1 _) _ _ _ _ :: _) _ _)); refine wpl_build1 hE rfl rfl (xs := [.string ⟨#[100]⟩, .bool false, .string ⟨#[97, 98]⟩]) rfl Tryd.underlying22 zs_en Tryd.sizeOf63 (by decide) (by decide) rfl ?_; clear hE; intro s2 w hE)
    | (clear A1; go_at_call 29; refine (HB1.out _ _ _ hE).mono ?_; clear hE; rintro e w2 ⟨v, h1, m1, ka, kc, h2, hE, hK1⟩; cases h1; cases h2)
    | (go_at_call 29; refine (HB2.out _ _ _ hE).mono ?_; clear hE; rintro e w2 ⟨v, h1, m2, kb, kd, h2, hE, hK2⟩; cases h1; cases h2)
    | ((with_reducible (show Go.wpList _ _ _ (Go.Oper.mk _ (.alloc 25) _ _ _ _ :: _) _ _)); refine wpl_alloc hE rfl rfl (by simp [go_sem]; rfl) ?_; clear hE; intro b w hE; simp only [Act.eval, Act.put, List.setIfInBounds_toArray, List.set_cons_zero, List.set_cons_succ, getD_lit, List.getD_cons_succ, List.getD_cons_zero, Value.cells] at hE)
    | ((with_reducible (show Go.wpList _ _ _ (Go.Oper.mk _ (.store 25 (.tmp 1) _) _ _ _ _ :: _) _ _)); refine wpl_storeW hE 0 rfl rfl rfl (xs := [_, _, _]) rfl rfl Tryd.sizeOf25 rfl (by simp [Value.oneCell']) rfl ?_; clear hE; intro w hE; simp only [List.set_cons_zero] at hE; have F1 := SL.hid (fun w h => atWm (t := 25) (P := Tryd.prog) (h : Ent (pt b (.cells #[.bool true, .string ⟨#[]⟩, .slice ka 1 kc] 25) :: (m1 ++ l)) w) (by repeat (first | exact List.Mem.head _ | refine List.Mem.tail _ ?_)) Tryd.isAgg25 Tryd.sizeOf25 rfl))
    | ((with_reducible (show Go.wpList _ _ _ (Go.Oper.mk _ (.store 25 (.tmp 3) _) _ _ _ _ :: _) _ _)); refine wpl_storeW hE 0 rfl rfl rfl (xs := [_, _, _]) rfl rfl Tryd.sizeOf25 rfl (by simp [Value.oneCell']) rfl ?_; clear hE; intro w hE; simp only [List.set_cons_zero] at hE)
    | ((with_reducible (show Go.wpList _ _ _ (Go.Oper.mk _ (.load 25 (.tmp 1)) _ _ _ _ :: _) _ _)); refine wpl_loadF rfl rfl rfl (F1.out _ (hE.suf sfx)) ?_)
    | ((with_reducible (show Go.wpList _ _ _ (Go.Oper.mk _ (.load 25 (.tmp 3)) _ _ _ _ :: _) _ _)); refine wpl_loadW hE 0 rfl rfl rfl rfl Tryd.isAgg25 Tryd.sizeOf25 rfl ?_)
    | (go_at_call 11; refine (HD.out _ _ _ _ _ _ (hK1.suf sfx) (hK2.suf sfx) hE).mono ?_; clear hE; rintro e w2 ⟨v, h1, a3, c3, m3, h2, hE⟩; cases h1; cases h2; have hc3 := SL.hid (row_capQ hE 0 rfl); have HKl := SL.hid (row_knows hE); obtain ⟨g3, o3, h3, G3⟩ := wl_loads HKl.out hE; cases h3; have G3 := SL.hid G3)
    | (clear A2; go_at_call 20; refine (HP1.out _ _ _ _ hc3.out _ _ (hK1.suf sfx) (HKl.out.suf sfx) hE).mono ?_; clear hE; rintro e w2 ⟨v, h1, m6, a6, c6, h2, hE, hK6⟩; cases h1; cases h2; obtain ⟨g6, o6, h6, G6⟩ := kid_data hK6 hE; cases h6; have G6 := SL.hid G6)
    | ((with_reducible (show Go.wpList _ _ _ (Go.Oper.mk _ (.store 25 (.tmp 6) _) _ _ _ _ :: _) _ _)); refine wpl_storeW hE 0 rfl rfl rfl (xs := [_, _, _]) rfl rfl Tryd.sizeOf25 rfl (by simp [Value.oneCell']) rfl ?_; clear hE; intro w hE; simp only [List.set_cons_zero] at hE; have F6 := SL.hid (kid_cell hE))
    | (go_at_call 26; refine (HR.out _ _ _ _ (HKl.out.suf sfx) hE).mono ?_; clear hE; rintro e w2 ⟨v, h1, a7, c7, h2, hE⟩; cases h1; cases h2; have hc7 := SL.hid (row_capQ hE 0 rfl); have HKm := SL.hid (row_knows hE))
    | (go_at_call 20; refine (HP2.out _ _ _ _ hc7.out _ _ (hK1.suf sfx) (HKm.out.suf sfx) hE).mono ?_; clear hE; rintro e w2 ⟨v, h1, m8, a8, c8, h2, hE⟩; cases h1; cases h2)
    | ((with_reducible (show Go.wpList _ _ _ (Go.Oper.mk _ (.store 25 (.tmp 10) _) _ _ _ _ :: _) _ _)); refine wpl_storeW hE 0 rfl rfl rfl (xs := [_, _, _]) rfl rfl Tryd.sizeOf25 rfl (by simp [Value.oneCell']) rfl ?_; clear hE; intro w hE; simp only [List.set_cons_zero] at hE)
    | (go_at_call 24; refine (HC.out _ _ _ _ hc3.out hc7.out _ _ (HKl.out.suf sfx) (HKm.out.suf sfx) hE).mono ?_; clear hE; rintro e w2 ⟨v, h1, a9, c9, m9, h2, hE⟩; cases h1; cases h2)
    | ((with_reducible (show Go.wpList _ _ _ (Go.Oper.mk _ (.load 65 _) _ _ _ _ :: _) _ _)); refine wpl_loadF rfl rfl rfl (G3.out _ (hE.suf sfx)).1 ?_)
    | ((with_reducible (show Go.wpList _ _ _ (Go.Oper.mk _ (.load 9 (.tmp 74)) _ _ _ _ :: _) _ _)); refine wpl_loadF rfl rfl rfl (G3.out _ (hE.suf sfx)).2.1 ?_)
    | ((with_reducible (show Go.wpList _ _ _ (Go.Oper.mk _ (.load 4 _) _ _ _ _ :: _) _ _)); refine wpl_loadF rfl rfl rfl (G3.out _ (hE.suf sfx)).2.2 ?_)
    | ((with_reducible (show Go.wpList _ _ _ (Go.Oper.mk _ (.load 23 _) _ _ _ _ :: _) _ _)); refine wpl_loadF rfl rfl rfl (F6.out _ (hE.suf sfx)) ?_)
    | ((with_reducible (show Go.wpList _ _ _ (Go.Oper.mk _ (.load 9 (.tmp 95)) _ _ _ _ :: _) _ _)); refine wpl_loadF rfl rfl rfl (G6.out _ (hE.suf sfx)) ?_)
    | (go_at_call 17; refine (HO.out _ _ hE).mono ?_; clear hE; rintro e w2 ⟨v, h1, h2, hE⟩; cases h1; cases h2)
    | (go_at_call 14; refine (HF.out _ _ _ _ (hK1.suf sfx) hE).mono ?_; clear hE; rintro e w2 ⟨v, h1, h2, m5, hE⟩; cases h1; cases h2))
  refine bodyPost_ret (results_tmp rfl _ _ _) rfl ?_
  exact ⟨_, rfl, rfl, [], hE.drop.drop.tail.drop.tail.tail.drop.tail.drop.tail.drop.tail.drop⟩
end Go.Proofs.YtcpgelpajppgdaaDoor
namespace Go.Proofs.YtcpgelpajppgdaaDoor
open Go.RowKit Go.SL

theorem treeP_good {es : List En} {t : Tr} (h : treeP es = some t) : great es = false ∧ Good t es := by
  have hgr : great es = false := by
    cases hg : great es with
    | false => rfl
    | true => rw [treeP, if_pos hg] at h; cases h
  rw [treeP, if_neg (by rw [hgr]; simp)] at h
  have h0 : (buildT es).1 = 0 := by
    by_cases h0 : (buildT es).1 = 0
    · exact h0
    · rw [if_neg h0] at h; cases h
  rw [if_pos h0] at h
  have ht : (buildT es).2 = t := Option.some.inj h
  have hG := ((build_same es).2 h0).1
  rw [((build_same es).2 h0).2, ht] at hG
  exact ⟨hgr, hG⟩
/-- what is known of a tree's entries -/
theorem tree_ents {es : List En} {t : Tr} (h : treeP es = some t) : Tr.Wf 6 t ∧ t.dir = true ∧ t.data = [] ∧ (entT 6 [] t).length ≤ 100 ∧ (∀ x ∈ entT 6 [] t, x.path.length ≤ 200 ∧ x.data.length ≤ 9000) ∧ (∀ x ∈ entT 6 [] t, x.path ≠ []) ∧ RiseP ((entT 6 [] t).map En.path) := by
  obtain ⟨hg, hG⟩ := treeP_good h
  obtain ⟨h1, h2⟩ := great_not.1 hg
  have hp := all_perm hG
  exact ⟨hG.2.1, hG.2.2.1, hG.2.2.2, by rw [hp.length_eq]; exact h1, fun x hx => h2 x (hp.mem_iff.1 hx), fun x hx => (ent_path hG.2.1 hx).2.2, ent_rise hG.2.1⟩
def TfPost (b : Bool) (l : List HProp) (v : Value) (w' : World) : Prop := ∃ (m : List HProp) (d : Bool) (s : ByteArray) (a : Option Addr) (n c : Nat) (a' : Option Addr) (n' c' : Nat), v = .tuple #[.agg #[.bool d, .string s, .slice a n c], .slice a' n' c', .bool b] ∧ Ent (m ++ l) w'
theorem Tree_tf {es : List En} {b : Bool} (h : (treeP es).isSome = b) {ao : Option Addr} {c : Nat} {l : List HProp} {w : World} (hk : Knows l (reads (.slice ao es.length c) es.length (es.flatMap enC))) (hE : Ent l w) :
    Calls Tryd.prog 8 #[.slice ao es.length c] w (Ret (TfPost b l)) := by
  cases ht : treeP es with
  | none =>
    rw [ht] at h
    subst h
    refine (Tree_none ht hk hE).mono ?_
    rintro e w' ⟨v, rfl, m, a, c, a', c', h, hE⟩
    exact ⟨_, rfl, m, _, _, a, 0, c, a', 0, c', h, hE⟩
  | some t =>
    rw [ht] at h
    subst h
    refine (Tree_good ht hk hE).mono ?_
    rintro e w' ⟨v, rfl, m, a, c, a', c', h, hE, _⟩
    exact ⟨_, rfl, m, _, _, a, _, c, a', _, c', h, hE⟩
theorem node_knows {b : Nat} {x y v : Value} {R : List HProp} {w : World} (_ : Ent (pt b (.cells #[x, y, v] 25) :: R) w) : ∀ w, Ent (pt b (.cells #[x, y, v] 25) :: R) w → (Instr.loadAt 25 (.pointer (some ⟨b, 0, none⟩))).run Tryd.prog w = .ok (.agg #[x, y, v]) w := fun _ h => atWm (vs := [x, y, v]) h (List.Mem.head _) Tryd.isAgg25 Tryd.sizeOf25 rfl
theorem node_false {b : Nat} {x y v : Value} {R : List HProp} {w : World} (_ : Ent (pt b (.cells #[x, y, v] 25) :: R) w) : ∀ w, Ent (pt b (.cells #[x, y, v] 25) :: R) w → (Instr.loadAt 4 (.pointer (some ⟨b, 0, none⟩))).run Tryd.prog w = .ok x w := fun _ h => run_load1 h 0 rfl (by simp [go_sem]) rfl
theorem rowRc_knows {ao : Option Addr} {c : Nat} {xs : List Ch} {R : List HProp} {w : World} (_ : Ent (rowRc ao c xs :: R) w) : Knows (rowRc ao c xs :: R) (reads (.slice ao xs.length c) xs.length (xs.flatMap chC)) := fun _ h => reads_row h 0 rfl
theorem rowEn_knows {ao : Option Addr} {c : Nat} {xs : List En} {R : List HProp} {w : World} (_ : Ent (rowEn ao c xs :: R) w) : Knows (rowEn ao c xs :: R) (reads (.slice ao xs.length c) xs.length (xs.flatMap enC)) := fun _ h => reads_row h 0 rfl
/-- the document's differences are the program's -/
theorem rdiff_same {a b : List En} (ha : ∀ x ∈ a, x.path ≠ []) (hb : ∀ x ∈ b, x.path ≠ []) : rDiffP a b = diffP a b := by
  unfold rDiffP diffP
  refine fm_congr fun k hk => ?_
  rw [sortK_mem, List.mem_append] at hk
  have hn : k ≠ [] := by
    rcases hk with h | h
    · obtain ⟨y, hy, rfl⟩ := List.mem_map.1 h
      exact ha y hy
    · obtain ⟨y, hy, rfl⟩ := List.mem_map.1 h
      exact hb y hy
  rw [rOf_fE hn, rOf_fE hn]
theorem diff_len (a b : List En) : (diffP a b).length ≤ a.length + b.length := by
  unfold diffP
  have h1 := List.length_filterMap_le (fun k => chg k (fE a k) (fE b k)) (sortK (a.map En.path ++ b.map En.path))
  have h2 := sortK_len (a.map En.path ++ b.map En.path)
  simp at h2
  omega
/-- what is known of the changes between two rows -/
theorem diff_ok {a b : List En} (ha : ∀ x ∈ a, x.path.length ≤ 200 ∧ x.data.length ≤ 9000) (hb : ∀ x ∈ b, x.path.length ≤ 200 ∧ x.data.length ≤ 9000) : ∀ x ∈ diffP a b, x.path.length ≤ 200 ∧ x.was.data.length ≤ 9000 ∧ x.now.data.length ≤ 9000 := by
  intro x hx
  obtain ⟨k, hk, h⟩ := List.mem_filterMap.1 hx
  rw [sortK_mem, List.mem_append] at hk
  have hs : ∀ (l : List En), (∀ x ∈ l, x.path.length ≤ 200 ∧ x.data.length ≤ 9000) → (fE l k).data.length ≤ 9000 := by
    intro l hl
    unfold fE
    cases hf : l.find? (fun x => x.path == k) with
    | none => simp [sideO, Sd.no]
    | some z => exact (hl z (List.mem_of_find?_eq_some hf)).2
  unfold chg at h
  split at h
  · cases h
  · cases h
    refine ⟨?_, hs a ha, hs b hb⟩
    rcases hk with h | h
    · obtain ⟨y, hy, rfl⟩ := List.mem_map.1 h
      exact (ha y hy).1
    · obtain ⟨y, hy, rfl⟩ := List.mem_map.1 h
      exact (hb y hy).1
end Go.Proofs.YtcpgelpajppgdaaDoor
namespace Go.Proofs.YtcpgelpajppgdaaDoor
open Go.RowKit Go.SL

instance decEn : DecidableEq En := fun a b => decidable_of_iff (a.path = b.path ∧ a.dir = b.dir ∧ a.data = b.data) (by obtain ⟨p, d, x⟩ := a; obtain ⟨q, e, y⟩ := b; simp only [En.mk.injEq])
theorem eqEnG (a b : En) (w : World) : (Op.equalIn 10000 63 (.agg (enC a).toArray) (.agg (enC b).toArray)).run Tryd.prog w = .ok (a == b) w := by
  obtain ⟨p, d, x⟩ := a
  obtain ⟨q, e, y⟩ := b
  have h := run_equalIn_agg (P := Tryd.prog) (w := w) 9999 63 #[.string ⟨p.toArray⟩, .bool d, .string ⟨x.toArray⟩] #[.string ⟨q.toArray⟩, .bool e, .string ⟨y.toArray⟩] (by kernel_rfl) (by kernel_rfl)
  refine h.trans ?_
  have e1 : ((⟨p, d, x⟩ : En) == ⟨q, e, y⟩) = (p == q && (d == e && x == y)) := by
    rw [Bool.eq_iff_iff]
    simp [En.mk.injEq]
  rw [e1]
  cases hpq : (p == q) <;> cases hxy : (x == y) <;> cases d <;> cases e <;> simp [go_sem, hpq, hxy]
def ErRel (xs ys : List En) (l : List HProp) (i : Value) (wr : World) : Prop :=
  ∃ k : Nat, k ≤ xs.length ∧ i = .int .i64 k ∧ xs.take k = ys.take k ∧ Ent l wr
def ErPost (xs ys : List En) (l : List HProp) (v : Value) (w' : World) : Prop := v = .bool (decide (xs = ys)) ∧ Ent l w'
theorem ErPost.mk {xs ys : List En} {l : List HProp} {w : World} (b : Bool) (hE : Ent l w) (h : b = true ↔ xs = ys) : ErPost xs ys l (.bool b) w := ⟨by rw [show decide (xs = ys) = b by rw [Bool.eq_iff_iff]; simp [h]], hE⟩
set_option maxRecDepth 100000 in
set_option maxHeartbeats 4000000 in
attribute [-go_sem] Instr.loadAt Go.run_equalIn_agg in
theorem eRow_any {xs ys : List En} (hn : xs.length ≤ 1000000) {ao bo : Option Addr} {c d : Nat} {l : List HProp} {w : World} (hx : Knows l (reads (.slice ao xs.length c) xs.length (xs.flatMap enC))) (hy : Knows l (reads (.slice bo ys.length d) ys.length (ys.flatMap enC))) (hE : Ent l w) :
    Calls Tryd.prog 22 #[.slice ao xs.length c, .slice bo ys.length d] w (Ret (ErPost xs ys l)) := by
  by_cases hl : xs.length = ys.length
  · have Hl := SL.hid hl
    obtain ⟨n, hn1⟩ : ∃ n, xs.length = n := ⟨_, rfl⟩
    have hn2 : ys.length = n := by omega
    rw [hn1] at hn ⊢
    rw [hn2]
    have N1 := SL.hid hn1
    have N2 := SL.hid hn2
    clear hn1 hn2 hl
    go_enter Tryd.func22, Tryd.ntmps22
    go_wp2
    go_loopw [5] (fun i wr => ErRel xs ys l i wr) (fun i _ => n - (intOf i).toNat)
    case atStart => exact ⟨0, Nat.zero_le _, rfl, rfl, hE⟩
    case round =>
      clear hE
      obtain ⟨k, hkl, rfl, htk, hE⟩ := hrel
      rw [N1.out] at hkl
      by_cases hlt : k < n
      · have hlx : k < xs.length := by have := N1.out; omega
        have hly : k < ys.length := by have := N2.out; omega
        obtain ⟨b, off, rfl, hz⟩ := en_at (hx _ hE) hlx
        obtain ⟨b2, off2, rfl, hz2⟩ := en_at (hy _ hE) hly
        clear hz hz2
        have f0 := SL.hid (show ∀ w, Ent l w → _ from fun w h => (load_en (hx w h) hlx).1)
        have f1 := SL.hid (show ∀ w, Ent l w → _ from fun w h => (load_en (hy w h) hly).1)
        have Hx := SL.hid (List.take_succ_eq_append_getElem hlx)
        have Hy := SL.hid (List.take_succ_eq_append_getElem hly)
        have Hne := SL.hid (show xs[k] ≠ ys[k] → xs ≠ ys from fun h e => h (by subst e; rfl))
        have hEq := fun w => eqEnG xs[k] ys[k] w
        have Htk := SL.hid htk
        clear htk
        generalize xs[k] = x at *
        generalize ys[k] = y at *
        have Hxy := SL.hid (show (x == y) = true ↔ x = y from beq_iff_eq)
        generalize (x == y) = eq at *
        clear hlx hly
        cases eq with
        | true =>
          go_wp2
          refine wp_region_held_drew (S := (fun w' => ((Instr.loadAt 63 (.pointer (some ⟨b, off + k * 3, none⟩))).run Tryd.prog w' = .ok (.agg (enC x).toArray) w') ∧ ((Instr.loadAt 63 (.pointer (some ⟨b2, off2 + k * 3, none⟩))).run Tryd.prog w' = .ok (.agg (enC y).toArray) w'))) (by kernel_rfl) ⟨(f0.out _ hE.drew), (f1.out _ hE.drew)⟩ (fun hS => ?_)
          refine tV 0 ⟨some 17, .move (.tmp 0), _, _, _, none⟩ hS ?_
          refine tV 1 ⟨some 18, .move (.tmp 5), _, _, _, none⟩ hS ?_
          refine tV 2 ⟨some 19, .indexAddr 22 (.tmp 17) (.tmp 18), _, _, _, none⟩ hS ?_
          refine tL 3 ⟨some 20, .load 63 (.tmp 19), _, _, _, none⟩ hS ?_
          refine tV 4 ⟨some 21, .move (.tmp 1), _, _, _, none⟩ hS ?_
          refine tV 5 ⟨some 22, .move (.tmp 5), _, _, _, none⟩ hS ?_
          refine tV 6 ⟨some 23, .indexAddr 22 (.tmp 21) (.tmp 22), _, _, _, none⟩ hS ?_
          refine tL 7 ⟨some 24, .load 63 (.tmp 23), _, _, _, none⟩ hS ?_
          refine tV 8 ⟨some 25, .binOp .neq 63 (.tmp 20) (.tmp 24) 63, _, _, _, none⟩ hS ?_
          refine wpAnyH_done (by kernel_rfl) ?_ _
          all_goals
            clear hS
            replace hE := hE.drew
            go_wp2
            go_roundw
            case rel => exact ⟨k + 1, by rw [N1.out]; exact hlt, by first | rfl | simp, by rw [Hx.out, Hy.out, Htk.out]; have := Hxy.out; simp at this; rw [this], hE⟩
            case measure => simp [intOf] <;> omega
        | false =>
          go_wp2
          refine wp_region_held_drew (S := (fun w' => ((Instr.loadAt 63 (.pointer (some ⟨b, off + k * 3, none⟩))).run Tryd.prog w' = .ok (.agg (enC x).toArray) w') ∧ ((Instr.loadAt 63 (.pointer (some ⟨b2, off2 + k * 3, none⟩))).run Tryd.prog w' = .ok (.agg (enC y).toArray) w'))) (by kernel_rfl) ⟨(f0.out _ hE.drew), (f1.out _ hE.drew)⟩ (fun hS => ?_)
          refine tV 0 ⟨some 17, .move (.tmp 0), _, _, _, none⟩ hS ?_
          refine tV 1 ⟨some 18, .move (.tmp 5), _, _, _, none⟩ hS ?_
          refine tV 2 ⟨some 19, .indexAddr 22 (.tmp 17) (.tmp 18), _, _, _, none⟩ hS ?_
          refine tL 3 ⟨some 20, .load 63 (.tmp 19), _, _, _, none⟩ hS ?_
          refine tV 4 ⟨some 21, .move (.tmp 1), _, _, _, none⟩ hS ?_
          refine tV 5 ⟨some 22, .move (.tmp 5), _, _, _, none⟩ hS ?_
          refine tV 6 ⟨some 23, .indexAddr 22 (.tmp 21) (.tmp 22), _, _, _, none⟩ hS ?_
          refine tL 7 ⟨some 24, .load 63 (.tmp 23), _, _, _, none⟩ hS ?_
          refine tV 8 ⟨some 25, .binOp .neq 63 (.tmp 20) (.tmp 24) 63, _, _, _, none⟩ hS ?_
          refine wpAnyH_done (by kernel_rfl) ?_ _
          all_goals
            clear hS
            replace hE := hE.drew
            go_wp2
            refine bodyPost_ret (results_tmp rfl _ _ _) rfl ?_
            exact ⟨_, rfl, .mk false hE (iff_of_false (by decide) (Hne.out (fun e => by have := Hxy.out.2 e; cases this)))⟩
      · obtain rfl : k = n := by omega
        have htk2 : xs = ys := by
          have h1 := N1.out
          have h2 := N2.out
          rwa [List.take_of_length_le (by omega), List.take_of_length_le (by omega)] at htk
        have R := SL.hid htk2
        clear htk htk2
        go_wp2
        refine bodyPost_ret (results_tmp rfl _ _ _) rfl ?_
        exact ⟨_, rfl, .mk true hE (iff_of_true rfl R.out)⟩
  · have R := SL.hid (show xs ≠ ys from fun e => hl (by rw [e]))
    have h1 : ¬ (xs.length : Int) = (ys.length : Int) := by omega
    go_enter Tryd.func22, Tryd.ntmps22
    go_wp2
    refine bodyPost_ret (results_tmp rfl _ _ _) rfl ?_
    exact ⟨_, rfl, .mk false hE (iff_of_false (by decide) R.out)⟩
end Go.Proofs.YtcpgelpajppgdaaDoor
namespace Go.Proofs.YtcpgelpajppgdaaDoor
open Go.RowKit Go.SL

theorem tree_build {es : List En} {t : Tr} (h : treeP es = some t) : buildT (entT 6 [] t) = (0, t) := by
  obtain ⟨hg, hG⟩ := treeP_good h
  refine build_entries hG ?_
  rw [treeP, if_neg (by rw [hg]; simp)] at h
  apply Classical.byContradiction
  intro hl
  have : buildT es = (6, .zero) := by rw [buildT, if_pos (by omega)]
  rw [this] at h
  simp at h
/-- the changes between two trees may be -/
theorem diff_may {es fs : List En} {t u : Tr} (ht : treeP es = some t) (hu : treeP fs = some u) : mayB (diffP (entT 6 [] t) (entT 6 [] u)) = true := by
  have h1 := (tree_ents ht).1
  have h2 := (tree_ents hu).1
  simp only [mayB, decide_eq_true_iff]
  exact ⟨may_diff h1 h2, diffP_rise _ _⟩
theorem diff_rev {es fs : List En} {t u : Tr} (ht : treeP es = some t) (hu : treeP fs = some u) : revP (diffP (entT 6 [] t) (entT 6 [] u)) = diffP (entT 6 [] u) (entT 6 [] t) ∧ revE (diffP (entT 6 [] t) (entT 6 [] u)) = 0 := by
  rw [revP, revE, if_pos (diff_may ht hu), if_pos (diff_may ht hu), diff_swap]
  exact ⟨rfl, rfl⟩
theorem diff_ap {es fs : List En} {t u : Tr} (ht : treeP es = some t) (hu : treeP fs = some u) : apR (entT 6 [] t) (diffP (entT 6 [] t) (entT 6 [] u)) = (0, u) := by
  have r1 := (tree_ents ht).2.2.2.2.2.2
  have r2 := (tree_ents hu).2.2.2.2.2.2
  obtain ⟨h1, h2⟩ := apply_diff (n := (entT 6 [] t).length + (diffP (entT 6 [] t) (entT 6 [] u)).length) (Nat.le_refl _) r1 r2
  rw [both_sorted (Nat.le_refl _) r1 (diffP_rise _ _)] at h1 h2
  have hfit : ((pairsA (entT 6 [] t) (diffP (entT 6 [] t) (entT 6 [] u))).all fun p => fitA p.1 p.2) = true := by
    refine List.all_eq_true.2 fun p hp => ?_
    obtain ⟨x, y⟩ := p
    cases y with
    | none => cases x <;> rfl
    | some c =>
      have := h2 (x, some c) hp c rfl
      simp only at this
      cases x <;> simp only [fitA, this, beq_self_eq_true]
  have hout : (pairsA (entT 6 [] t) (diffP (entT 6 [] t) (entT 6 [] u))).filterMap stepA = entT 6 [] u := by
    refine Eq.trans (fm_congr fun p hp => ?_) h1
    have := List.all_eq_true.1 hfit p hp
    rw [stepA, if_pos this]
  rw [apR, if_pos (diff_may ht hu), if_pos hfit, hout, tree_build hu]
theorem diff_none (l m : List En) (hl : RiseP (l.map En.path)) (hm : RiseP (m.map En.path)) : ((diffP l m).length = 0) ↔ l = m := by
  rw [List.length_eq_zero_iff]
  exact diff_nil hl hm
/-- changes composed are those of the whole road -/
theorem diff_comp {es fs gs : List En} {t u v : Tr} (ht : treeP es = some t) (hu : treeP fs = some u) (hv : treeP gs = some v) : cmpP (diffP (entT 6 [] t) (entT 6 [] u)) (diffP (entT 6 [] u) (entT 6 [] v)) = diffP (entT 6 [] t) (entT 6 [] v) ∧ cmpE (diffP (entT 6 [] t) (entT 6 [] u)) (diffP (entT 6 [] u) (entT 6 [] v)) = 0 := by
  obtain ⟨h1, h2⟩ := comp_diff (l := entT 6 [] t) (m := entT 6 [] u) (r := entT 6 [] v) (Nat.le_refl _)
  rw [both_sorted (Nat.le_refl _) (diffP_rise _ _) (diffP_rise _ _)] at h1 h2
  have hfit : ((pairsC (diffP (entT 6 [] t) (entT 6 [] u)) (diffP (entT 6 [] u) (entT 6 [] v))).all fun p => fitsB p.1 p.2) = true := by
    refine List.all_eq_true.2 fun p hp => ?_
    have := h2 p hp
    obtain ⟨x, y⟩ := p
    cases x <;> cases y <;> first | rfl | (simp only [fits] at this; simp only [fitsB, this, beq_self_eq_true])
  have hm : (mayB (diffP (entT 6 [] t) (entT 6 [] u)) && mayB (diffP (entT 6 [] u) (entT 6 [] v))) = true := by rw [diff_may ht hu, diff_may hu hv]; rfl
  rw [cmpP, cmpE, if_pos hm, if_pos hm, if_pos hfit, if_pos hfit]
  exact ⟨h1, rfl⟩
end Go.Proofs.YtcpgelpajppgdaaDoor
namespace Go.Proofs.YtcpgelpajppgdaaDoor
open Go.RowKit Go.SL

set_option maxRecDepth 100000 in
set_option maxHeartbeats 8000000 in
theorem road_not {xs : List En} {ys : List En} {zs : List En} {us : List En} {a_xs : Option Addr} {c_xs : Nat} {a_ys : Option Addr} {c_ys : Nat} {a_zs : Option Addr} {c_zs : Nat} {a_us : Option Addr} {c_us : Nat} {b1 : Bool} {b2 : Bool} {b3 : Bool} {b4 : Bool} (h1 : (treeP xs).isSome = b1) (h2 : (treeP ys).isSome = b2) (h3 : (treeP zs).isSome = b3) (h4 : (treeP us).isSome = b4) (hn : b1 = false ∨ b2 = false ∨ b3 = false ∨ b4 = false) {l : List HProp} {w : World} (h_xs : Knows l (reads (.slice a_xs xs.length c_xs) xs.length (xs.flatMap enC))) (h_ys : Knows l (reads (.slice a_ys ys.length c_ys) ys.length (ys.flatMap enC))) (h_zs : Knows l (reads (.slice a_zs zs.length c_zs) zs.length (zs.flatMap enC))) (h_us : Knows l (reads (.slice a_us us.length c_us) us.length (us.flatMap enC))) (hE : Ent l w) :
    Calls Tryd.prog 7 #[.slice a_xs xs.length c_xs, .slice a_ys ys.length c_ys, .slice a_zs zs.length c_zs, .slice a_us us.length c_us] w (Ret fun v w' => v = .bool true ∧ Ent l w') := by
  have HT1 := SL.hid (fun (L : List HProp) (w : World) (hs : l <:+ L) (h : Ent L w) => Tree_tf h1 (h_xs.suf hs) h)
  have HT2 := SL.hid (fun (L : List HProp) (w : World) (hs : l <:+ L) (h : Ent L w) => Tree_tf h2 (h_ys.suf hs) h)
  have HT3 := SL.hid (fun (L : List HProp) (w : World) (hs : l <:+ L) (h : Ent L w) => Tree_tf h3 (h_zs.suf hs) h)
  have HT4 := SL.hid (fun (L : List HProp) (w : World) (hs : l <:+ L) (h : Ent L w) => Tree_tf h4 (h_us.suf hs) h)
  clear h1 h2 h3 h4 h_xs h_ys h_zs h_us
  have A1 := SL.hid True.intro
  have A2 := SL.hid True.intro
  have A3 := SL.hid True.intro
  have A4 := SL.hid True.intro
  cases b1 <;> cases b2 <;> cases b3 <;> cases b4
  case' true.true.true.true =>
    exfalso
    simp at hn
  all_goals
    clear hn
    go_enter Tryd.func7, Tryd.ntmps7
    go_wp2_with (first
      | go_skip
      | (clear A1; go_at_call 8; refine (HT1.out _ _ sfx hE).mono ?_; clear hE; rintro e w2 ⟨v, h1, m, d, s, a, n, c, a', n', c', h2, hE⟩; cases h1; cases h2)
      | (clear A2; go_at_call 8; refine (HT2.out _ _ sfx hE).mono ?_; clear hE; rintro e w2 ⟨v, h1, m, d, s, a, n, c, a', n', c', h2, hE⟩; cases h1; cases h2)
      | (clear A3; go_at_call 8; refine (HT3.out _ _ sfx hE).mono ?_; clear hE; rintro e w2 ⟨v, h1, m, d, s, a, n, c, a', n', c', h2, hE⟩; cases h1; cases h2)
      | (clear A4; go_at_call 8; refine (HT4.out _ _ sfx hE).mono ?_; clear hE; rintro e w2 ⟨v, h1, m, d, s, a, n, c, a', n', c', h2, hE⟩; cases h1; cases h2)
      | ((with_reducible (show Go.wpList _ _ _ (Go.Oper.mk _ (.alloc 25) _ _ _ _ :: _) _ _)); refine wpl_alloc hE rfl rfl (by simp [go_sem]; rfl) ?_; clear hE; intro b w hE; simp only [Act.eval, Act.put, List.setIfInBounds_toArray, List.set_cons_zero, List.set_cons_succ, getD_lit, List.getD_cons_succ, List.getD_cons_zero, Value.cells] at hE)
      | ((with_reducible (show Go.wpList _ _ _ (Go.Oper.mk _ (.store 25 _ _) _ _ _ _ :: _) _ _)); refine wpl_storeW hE 0 rfl rfl rfl (xs := [_, _, _]) rfl rfl Tryd.sizeOf25 rfl (by simp [Value.oneCell']) rfl ?_; clear hE; intro w hE; simp only [List.set_cons_zero] at hE)
      | (go_at_call 9; refine (wakes28_any hE).mono ?_; clear hE; rintro e w2 ⟨v, h1, h2, m9, hE⟩; cases h1; cases h2))
    refine bodyPost_ret (results_tmp rfl _ _ _) rfl ?_
    exact ⟨_, rfl, rfl, hE.suf sfx⟩
set_option maxRecDepth 100000 in
set_option maxHeartbeats 16000000 in
attribute [-go_sem] Instr.loadAt in
theorem road_yes {xs : List En} {ys : List En} {zs : List En} {us : List En} {a_xs : Option Addr} {c_xs : Nat} {a_ys : Option Addr} {c_ys : Nat} {a_zs : Option Addr} {c_zs : Nat} {a_us : Option Addr} {c_us : Nat} {t1 t2 t3 t4 : Tr} (h1 : treeP xs = some t1) (h2 : treeP ys = some t2) (h3 : treeP zs = some t3) (h4 : treeP us = some t4) {l : List HProp} {w : World} (h_xs : Knows l (reads (.slice a_xs xs.length c_xs) xs.length (xs.flatMap enC))) (h_ys : Knows l (reads (.slice a_ys ys.length c_ys) ys.length (ys.flatMap enC))) (h_zs : Knows l (reads (.slice a_zs zs.length c_zs) zs.length (zs.flatMap enC))) (h_us : Knows l (reads (.slice a_us us.length c_us) us.length (us.flatMap enC))) (hE : Ent l w) :
    Calls Tryd.prog 7 #[.slice a_xs xs.length c_xs, .slice a_ys ys.length c_ys, .slice a_zs zs.length c_zs, .slice a_us us.length c_us] w (Ret fun v w' => v = .bool true ∧ Ent l w') := by
  have HT1 := SL.hid (fun (L : List HProp) (w : World) (hs : l <:+ L) (h : Ent L w) => Tree_good h1 (h_xs.suf hs) h)
  obtain ⟨w1, d1, e1, l1, k1, n1, r1⟩ := tree_ents h1
  have HT2 := SL.hid (fun (L : List HProp) (w : World) (hs : l <:+ L) (h : Ent L w) => Tree_good h2 (h_ys.suf hs) h)
  obtain ⟨w2, d2, e2, l2, k2, n2, r2⟩ := tree_ents h2
  have HT3 := SL.hid (fun (L : List HProp) (w : World) (hs : l <:+ L) (h : Ent L w) => Tree_good h3 (h_zs.suf hs) h)
  obtain ⟨w3, d3, e3, l3, k3, n3, r3⟩ := tree_ents h3
  have HT4 := SL.hid (fun (L : List HProp) (w : World) (hs : l <:+ L) (h : Ent L w) => Tree_good h4 (h_us.suf hs) h)
  obtain ⟨w4, d4, e4, l4, k4, n4, r4⟩ := tree_ents h4
  have HD12 := SL.hid (fun (L : List HProp) (w : World) (v1 v2 : Value) hk1 hk2 (h : Ent L w) => Diff_any w1 w2 (by omega) (by omega) (kv := v1) (lv := v2) (l := L) hk1 hk2 h)
  have dl12 := diff_len (entT 6 [] t1) (entT 6 [] t2)
  have dk12 := diff_ok k1 k2
  have HD23 := SL.hid (fun (L : List HProp) (w : World) (v1 v2 : Value) hk1 hk2 (h : Ent L w) => Diff_any w2 w3 (by omega) (by omega) (kv := v1) (lv := v2) (l := L) hk1 hk2 h)
  have dl23 := diff_len (entT 6 [] t2) (entT 6 [] t3)
  have dk23 := diff_ok k2 k3
  have HD34 := SL.hid (fun (L : List HProp) (w : World) (v1 v2 : Value) hk1 hk2 (h : Ent L w) => Diff_any w3 w4 (by omega) (by omega) (kv := v1) (lv := v2) (l := L) hk1 hk2 h)
  have dl34 := diff_len (entT 6 [] t3) (entT 6 [] t4)
  have dk34 := diff_ok k3 k4
  have HD13 := SL.hid (fun (L : List HProp) (w : World) (v1 v2 : Value) hk1 hk2 (h : Ent L w) => Diff_any w1 w3 (by omega) (by omega) (kv := v1) (lv := v2) (l := L) hk1 hk2 h)
  have dl13 := diff_len (entT 6 [] t1) (entT 6 [] t3)
  have dk13 := diff_ok k1 k3
  have HD24 := SL.hid (fun (L : List HProp) (w : World) (v1 v2 : Value) hk1 hk2 (h : Ent L w) => Diff_any w2 w4 (by omega) (by omega) (kv := v1) (lv := v2) (l := L) hk1 hk2 h)
  have dl24 := diff_len (entT 6 [] t2) (entT 6 [] t4)
  have dk24 := diff_ok k2 k4
  have HD14 := SL.hid (fun (L : List HProp) (w : World) (v1 v2 : Value) hk1 hk2 (h : Ent L w) => Diff_any w1 w4 (by omega) (by omega) (kv := v1) (lv := v2) (l := L) hk1 hk2 h)
  have dl14 := diff_len (entT 6 [] t1) (entT 6 [] t4)
  have dk14 := diff_ok k1 k4
  have HC1 := SL.hid (fun (L : List HProp) (w : World) (a1 a2 : Option Addr) (c1 c2 : Nat) hc1 hc2 hk1 hk2 (h : Ent L w) => Compose_in (a := diffP (entT 6 [] t1) (entT 6 [] t2)) (b := diffP (entT 6 [] t2) (entT 6 [] t3)) (by omega) (by omega) (fun x hx => by have := (dk12 x hx).1; omega) (fun x hx => by have := (dk23 x hx).1; omega) (aa := a1) (ab := a2) (ca := c1) (cb := c2) hc1 hc2 (fun w' h => may_any (by omega) (fun x hx => by have := (dk12 x hx).1; omega) hk1 h) (fun w' h => may_any (by omega) (fun x hx => by have := (dk23 x hx).1; omega) hk2 h) hk1 hk2 h)
  rw [(diff_comp h1 h2 h3).1, (diff_comp h1 h2 h3).2] at HC1
  unfold CmPost at HC1
  have HC2 := SL.hid (fun (L : List HProp) (w : World) (a1 a2 : Option Addr) (c1 c2 : Nat) hc1 hc2 hk1 hk2 (h : Ent L w) => Compose_in (a := diffP (entT 6 [] t2) (entT 6 [] t3)) (b := diffP (entT 6 [] t3) (entT 6 [] t4)) (by omega) (by omega) (fun x hx => by have := (dk23 x hx).1; omega) (fun x hx => by have := (dk34 x hx).1; omega) (aa := a1) (ab := a2) (ca := c1) (cb := c2) hc1 hc2 (fun w' h => may_any (by omega) (fun x hx => by have := (dk23 x hx).1; omega) hk1 h) (fun w' h => may_any (by omega) (fun x hx => by have := (dk34 x hx).1; omega) hk2 h) hk1 hk2 h)
  rw [(diff_comp h2 h3 h4).1, (diff_comp h2 h3 h4).2] at HC2
  unfold CmPost at HC2
  have HC3 := SL.hid (fun (L : List HProp) (w : World) (a1 a2 : Option Addr) (c1 c2 : Nat) hc1 hc2 hk1 hk2 (h : Ent L w) => Compose_in (a := diffP (entT 6 [] t1) (entT 6 [] t3)) (b := diffP (entT 6 [] t3) (entT 6 [] t4)) (by omega) (by omega) (fun x hx => by have := (dk13 x hx).1; omega) (fun x hx => by have := (dk34 x hx).1; omega) (aa := a1) (ab := a2) (ca := c1) (cb := c2) hc1 hc2 (fun w' h => may_any (by omega) (fun x hx => by have := (dk13 x hx).1; omega) hk1 h) (fun w' h => may_any (by omega) (fun x hx => by have := (dk34 x hx).1; omega) hk2 h) hk1 hk2 h)
  rw [(diff_comp h1 h3 h4).1, (diff_comp h1 h3 h4).2] at HC3
  unfold CmPost at HC3
  have HC4 := SL.hid (fun (L : List HProp) (w : World) (a1 a2 : Option Addr) (c1 c2 : Nat) hc1 hc2 hk1 hk2 (h : Ent L w) => Compose_in (a := diffP (entT 6 [] t1) (entT 6 [] t2)) (b := diffP (entT 6 [] t2) (entT 6 [] t4)) (by omega) (by omega) (fun x hx => by have := (dk12 x hx).1; omega) (fun x hx => by have := (dk24 x hx).1; omega) (aa := a1) (ab := a2) (ca := c1) (cb := c2) hc1 hc2 (fun w' h => may_any (by omega) (fun x hx => by have := (dk12 x hx).1; omega) hk1 h) (fun w' h => may_any (by omega) (fun x hx => by have := (dk24 x hx).1; omega) hk2 h) hk1 hk2 h)
  rw [(diff_comp h1 h2 h4).1, (diff_comp h1 h2 h4).2] at HC4
  unfold CmPost at HC4
  have HR13 := SL.hid (fun (L : List HProp) (w : World) (a1 a2 : Option Addr) (c1 c2 : Nat) hk1 hk2 (h : Ent L w) => lRow_any (xs := diffP (entT 6 [] t1) (entT 6 [] t3)) (ys := diffP (entT 6 [] t1) (entT 6 [] t3)) (by omega) (ao := a1) (bo := a2) (c := c1) (d := c2) hk1 hk2 h)
  unfold LrPost at HR13
  simp only [decide_true] at HR13
  have HR24 := SL.hid (fun (L : List HProp) (w : World) (a1 a2 : Option Addr) (c1 c2 : Nat) hk1 hk2 (h : Ent L w) => lRow_any (xs := diffP (entT 6 [] t2) (entT 6 [] t4)) (ys := diffP (entT 6 [] t2) (entT 6 [] t4)) (by omega) (ao := a1) (bo := a2) (c := c1) (d := c2) hk1 hk2 h)
  unfold LrPost at HR24
  simp only [decide_true] at HR24
  have HR14 := SL.hid (fun (L : List HProp) (w : World) (a1 a2 : Option Addr) (c1 c2 : Nat) hk1 hk2 (h : Ent L w) => lRow_any (xs := diffP (entT 6 [] t1) (entT 6 [] t4)) (ys := diffP (entT 6 [] t1) (entT 6 [] t4)) (by omega) (ao := a1) (bo := a2) (c := c1) (d := c2) hk1 hk2 h)
  unfold LrPost at HR14
  simp only [decide_true] at HR14
  unfold TgPost at HT1 HT2 HT3 HT4
  simp only [nodeV] at HD12 HD23 HD34 HD13 HD24 HD14
  generalize diffP (entT 6 [] t1) (entT 6 [] t2) = D12 at *
  generalize diffP (entT 6 [] t2) (entT 6 [] t3) = D23 at *
  generalize diffP (entT 6 [] t3) (entT 6 [] t4) = D34 at *
  generalize diffP (entT 6 [] t1) (entT 6 [] t3) = D13 at *
  generalize diffP (entT 6 [] t2) (entT 6 [] t4) = D24 at *
  generalize diffP (entT 6 [] t1) (entT 6 [] t4) = D14 at *
  generalize entT 6 [] t1 = es1 at *
  generalize entT 6 [] t2 = es2 at *
  generalize entT 6 [] t3 = es3 at *
  generalize entT 6 [] t4 = es4 at *
  clear h1 w1 d1 e1 l1 k1 n1 r1 h2 w2 d2 e2 l2 k2 n2 r2 h3 w3 d3 e3 l3 k3 n3 r3 h4 w4 d4 e4 l4 k4 n4 r4 h_xs h_ys h_zs h_us dl12 dk12 dl23 dk23 dl34 dk34 dl13 dk13 dl24 dk24 dl14 dk14
  have A1 := SL.hid True.intro
  have A2 := SL.hid True.intro
  have A3 := SL.hid True.intro
  have A4 := SL.hid True.intro
  have D1 := SL.hid True.intro
  have D2 := SL.hid True.intro
  have D3 := SL.hid True.intro
  have D4 := SL.hid True.intro
  have D5 := SL.hid True.intro
  have D6 := SL.hid True.intro
  have D7 := SL.hid True.intro
  have D8 := SL.hid True.intro
  have D9 := SL.hid True.intro
  have C1 := SL.hid True.intro
  have C2 := SL.hid True.intro
  have C3 := SL.hid True.intro
  have C4 := SL.hid True.intro
  have R1 := SL.hid True.intro
  have R2 := SL.hid True.intro
  have R3 := SL.hid True.intro
  have R4 := SL.hid True.intro
  go_enter Tryd.func7, Tryd.ntmps7
  go_wp2_with (first
    | go_skip
    | (clear A1; go_at_call 8; refine (HT1.out _ _ sfx hE).mono ?_; clear hE; rintro e w2 ⟨v, h1, m, ka1, kc1, ea1, ec1, h2, hE, hK1, hR1⟩; cases h1; cases h2)
    | (clear A2; go_at_call 8; refine (HT2.out _ _ sfx hE).mono ?_; clear hE; rintro e w2 ⟨v, h1, m, ka2, kc2, ea2, ec2, h2, hE, hK2, hR2⟩; cases h1; cases h2)
    | (clear A3; go_at_call 8; refine (HT3.out _ _ sfx hE).mono ?_; clear hE; rintro e w2 ⟨v, h1, m, ka3, kc3, ea3, ec3, h2, hE, hK3, hR3⟩; cases h1; cases h2)
    | (clear A4; go_at_call 8; refine (HT4.out _ _ sfx hE).mono ?_; clear hE; rintro e w2 ⟨v, h1, m, ka4, kc4, ea4, ec4, h2, hE, hK4, hR4⟩; cases h1; cases h2)
    | ((with_reducible (show Go.wpList _ _ _ (Go.Oper.mk _ (.alloc 25) _ _ _ _ :: _) _ _)); refine wpl_alloc hE rfl rfl (by simp [go_sem]; rfl) ?_; clear hE; intro b w hE; simp only [Act.eval, Act.put, List.setIfInBounds_toArray, List.set_cons_zero, List.set_cons_succ, getD_lit, List.getD_cons_succ, List.getD_cons_zero, Value.cells] at hE)
    | ((with_reducible (show Go.wpList _ _ _ (Go.Oper.mk _ (.store 25 (.tmp 9) _) _ _ _ _ :: _) _ _)); refine wpl_storeW hE 0 rfl rfl rfl (xs := [_, _, _]) rfl rfl Tryd.sizeOf25 rfl (by simp [Value.oneCell']) rfl ?_; clear hE; intro w hE; simp only [List.set_cons_zero] at hE; have F1 := SL.hid (node_knows hE); obtain ⟨b9, hb9⟩ : ∃ x, x = b := ⟨_, rfl⟩; subst hb9)
    | ((with_reducible (show Go.wpList _ _ _ (Go.Oper.mk _ (.store 25 (.tmp 12) _) _ _ _ _ :: _) _ _)); refine wpl_storeW hE 0 rfl rfl rfl (xs := [_, _, _]) rfl rfl Tryd.sizeOf25 rfl (by simp [Value.oneCell']) rfl ?_; clear hE; intro w hE; simp only [List.set_cons_zero] at hE; have F2 := SL.hid (node_knows hE); obtain ⟨b12, hb12⟩ : ∃ x, x = b := ⟨_, rfl⟩; subst hb12)
    | ((with_reducible (show Go.wpList _ _ _ (Go.Oper.mk _ (.store 25 (.tmp 15) _) _ _ _ _ :: _) _ _)); refine wpl_storeW hE 0 rfl rfl rfl (xs := [_, _, _]) rfl rfl Tryd.sizeOf25 rfl (by simp [Value.oneCell']) rfl ?_; clear hE; intro w hE; simp only [List.set_cons_zero] at hE; have F3 := SL.hid (node_knows hE); obtain ⟨b15, hb15⟩ : ∃ x, x = b := ⟨_, rfl⟩; subst hb15)
    | ((with_reducible (show Go.wpList _ _ _ (Go.Oper.mk _ (.store 25 (.tmp 18) _) _ _ _ _ :: _) _ _)); refine wpl_storeW hE 0 rfl rfl rfl (xs := [_, _, _]) rfl rfl Tryd.sizeOf25 rfl (by simp [Value.oneCell']) rfl ?_; clear hE; intro w hE; simp only [List.set_cons_zero] at hE; have F4 := SL.hid (node_knows hE); obtain ⟨b18, hb18⟩ : ∃ x, x = b := ⟨_, rfl⟩; subst hb18))
  have hO := hE.drew
  refine wp_region_held_drew (S := (fun w' => ((Instr.loadAt 25 (.pointer (some ⟨b9, 0, none⟩))).run Tryd.prog w' = .ok (.agg #[.bool t1.dir, .string ⟨t1.data.toArray⟩, .slice ka1 t1.kids.length kc1]) w') ∧ ((Instr.loadAt 25 (.pointer (some ⟨b12, 0, none⟩))).run Tryd.prog w' = .ok (.agg #[.bool t2.dir, .string ⟨t2.data.toArray⟩, .slice ka2 t2.kids.length kc2]) w') ∧ ((Instr.loadAt 25 (.pointer (some ⟨b15, 0, none⟩))).run Tryd.prog w' = .ok (.agg #[.bool t3.dir, .string ⟨t3.data.toArray⟩, .slice ka3 t3.kids.length kc3]) w'))) (by kernel_rfl) ⟨(F1.out _ (hO.suf sfx)), (F2.out _ (hO.suf sfx)), (F3.out _ (hO.suf sfx))⟩ (fun hS => ?_)
  refine tL 0 ⟨some 69, .load 25 (.tmp 9), _, _, _, none⟩ hS ?_
  refine tL 1 ⟨some 70, .load 25 (.tmp 12), _, _, _, none⟩ hS ?_
  refine tL 3 ⟨some 72, .load 25 (.tmp 12), _, _, _, none⟩ hS ?_
  refine tL 4 ⟨some 73, .load 25 (.tmp 15), _, _, _, none⟩ hS ?_
  refine wpAnyH_ready (rs := [2]) (by kernel_rfl) (by simp) ?_
  refine (AllReadyH.cons (o := ⟨some 71, .call { callee := .value (.func 11), args := #[.tmp 69, .tmp 70], argTypes := #[25, 25] }, _, _, _, none⟩) rfl (fun K hK => ?_) AllReadyH.nil)
  (go_simp; refine (HD12.out _ _ _ _ (hK1.suf sfx) (hK2.suf sfx) hO).mono ?_; clear hO; rintro e w2 ⟨v, h1, aa, cc, mm, h2, hO⟩; cases h1; cases h2; have K1 := SL.hid (row_knows hO); have cK1 := SL.hid (row_capQ hO 0 rfl))
  refine hK.out _ _ ⟨(F1.out _ (hO.suf sfx)), (F2.out _ (hO.suf sfx)), (F3.out _ (hO.suf sfx))⟩ (fun hS => ?_)
  clear hK K
  try simp only [Act.put, sb, s0, sz]
  refine wpAnyH_ready (rs := [5]) (by kernel_rfl) (by simp) ?_
  refine (AllReadyH.cons (o := ⟨some 74, .call { callee := .value (.func 11), args := #[.tmp 72, .tmp 73], argTypes := #[25, 25] }, _, _, _, none⟩) rfl (fun K hK => ?_) AllReadyH.nil)
  (go_simp; refine (HD23.out _ _ _ _ (hK2.suf sfx) (hK3.suf sfx) hO).mono ?_; clear hO; rintro e w2 ⟨v, h1, aa, cc, mm, h2, hO⟩; cases h1; cases h2; have K2 := SL.hid (row_knows hO); have cK2 := SL.hid (row_capQ hO 0 rfl))
  refine hK.out _ _ ⟨(F1.out _ (hO.suf sfx)), (F2.out _ (hO.suf sfx)), (F3.out _ (hO.suf sfx))⟩ (fun hS => ?_)
  clear hK K
  try simp only [Act.put, sb, s0, sz]
  refine wpAnyH_ready (rs := [6]) (by kernel_rfl) (by simp) ?_
  refine (AllReadyH.cons (o := ⟨some 75, .call { callee := .value (.func 24), args := #[.tmp 71, .tmp 74], argTypes := #[30, 30] }, _, _, _, none⟩) rfl (fun K hK => ?_) AllReadyH.nil)
  (go_simp; refine (HC1.out _ _ _ _ _ _ cK1.out cK2.out (K1.out.suf sfx) (K2.out.suf sfx) hO).mono ?_; clear hO; rintro e w2 ⟨v, h1, aa, cc, mm, h2, hO⟩; cases h1; cases h2; have Kk := SL.hid (row_knows hO); have cKk := SL.hid (row_capQ hO 0 rfl))
  refine hK.out _ _ ⟨(F1.out _ (hO.suf sfx)), (F2.out _ (hO.suf sfx)), (F3.out _ (hO.suf sfx))⟩ (fun hS => ?_)
  clear hK K
  try simp only [Act.put, sb, s0, sz]
  refine tV 7 ⟨some 68, .move (.tmp 75), _, _, _, none⟩ hS ?_
  refine tV 8 ⟨some 76, .extract (.tmp 68) 0, _, _, _, none⟩ hS ?_
  refine tV 9 ⟨some 77, .extract (.tmp 68) 1, _, _, _, none⟩ hS ?_
  refine tV 10 ⟨some 21, .assign (.tmp 76), _, _, _, none⟩ hS ?_
  refine tV 11 ⟨some 22, .assign (.tmp 77), _, _, _, none⟩ hS ?_
  refine wpAnyH_done (by kernel_rfl) ?_ _
  all_goals
    clear hS hE
    have hE := hO
    clear hO
    go_wp2
    have hO := hE.drew
    refine wp_region_held_drew (S := (fun w' => ((Instr.loadAt 25 (.pointer (some ⟨b12, 0, none⟩))).run Tryd.prog w' = .ok (.agg #[.bool t2.dir, .string ⟨t2.data.toArray⟩, .slice ka2 t2.kids.length kc2]) w') ∧ ((Instr.loadAt 25 (.pointer (some ⟨b15, 0, none⟩))).run Tryd.prog w' = .ok (.agg #[.bool t3.dir, .string ⟨t3.data.toArray⟩, .slice ka3 t3.kids.length kc3]) w') ∧ ((Instr.loadAt 25 (.pointer (some ⟨b18, 0, none⟩))).run Tryd.prog w' = .ok (.agg #[.bool t4.dir, .string ⟨t4.data.toArray⟩, .slice ka4 t4.kids.length kc4]) w'))) (by kernel_rfl) ⟨(F2.out _ (hO.suf sfx)), (F3.out _ (hO.suf sfx)), (F4.out _ (hO.suf sfx))⟩ (fun hS => ?_)
    refine tL 0 ⟨some 79, .load 25 (.tmp 12), _, _, _, none⟩ hS ?_
    refine tL 1 ⟨some 80, .load 25 (.tmp 15), _, _, _, none⟩ hS ?_
    refine tL 3 ⟨some 82, .load 25 (.tmp 15), _, _, _, none⟩ hS ?_
    refine tL 4 ⟨some 83, .load 25 (.tmp 18), _, _, _, none⟩ hS ?_
    refine wpAnyH_ready (rs := [2]) (by kernel_rfl) (by simp) ?_
    refine (AllReadyH.cons (o := ⟨some 81, .call { callee := .value (.func 11), args := #[.tmp 79, .tmp 80], argTypes := #[25, 25] }, _, _, _, none⟩) rfl (fun K hK => ?_) AllReadyH.nil)
    (go_simp; refine (HD23.out _ _ _ _ (hK2.suf sfx) (hK3.suf sfx) hO).mono ?_; clear hO; rintro e w2 ⟨v, h1, aa, cc, mm, h2, hO⟩; cases h1; cases h2; have K3 := SL.hid (row_knows hO); have cK3 := SL.hid (row_capQ hO 0 rfl))
    refine hK.out _ _ ⟨(F2.out _ (hO.suf sfx)), (F3.out _ (hO.suf sfx)), (F4.out _ (hO.suf sfx))⟩ (fun hS => ?_)
    clear hK K
    try simp only [Act.put, sb, s0, sz]
    refine wpAnyH_ready (rs := [5]) (by kernel_rfl) (by simp) ?_
    refine (AllReadyH.cons (o := ⟨some 84, .call { callee := .value (.func 11), args := #[.tmp 82, .tmp 83], argTypes := #[25, 25] }, _, _, _, none⟩) rfl (fun K hK => ?_) AllReadyH.nil)
    (go_simp; refine (HD34.out _ _ _ _ (hK3.suf sfx) (hK4.suf sfx) hO).mono ?_; clear hO; rintro e w2 ⟨v, h1, aa, cc, mm, h2, hO⟩; cases h1; cases h2; have K4 := SL.hid (row_knows hO); have cK4 := SL.hid (row_capQ hO 0 rfl))
    refine hK.out _ _ ⟨(F2.out _ (hO.suf sfx)), (F3.out _ (hO.suf sfx)), (F4.out _ (hO.suf sfx))⟩ (fun hS => ?_)
    clear hK K
    try simp only [Act.put, sb, s0, sz]
    refine wpAnyH_ready (rs := [6]) (by kernel_rfl) (by simp) ?_
    refine (AllReadyH.cons (o := ⟨some 85, .call { callee := .value (.func 24), args := #[.tmp 81, .tmp 84], argTypes := #[30, 30] }, _, _, _, none⟩) rfl (fun K hK => ?_) AllReadyH.nil)
    (go_simp; refine (HC2.out _ _ _ _ _ _ cK3.out cK4.out (K3.out.suf sfx) (K4.out.suf sfx) hO).mono ?_; clear hO; rintro e w2 ⟨v, h1, aa, cc, mm, h2, hO⟩; cases h1; cases h2; have Kl := SL.hid (row_knows hO); have cKl := SL.hid (row_capQ hO 0 rfl))
    refine hK.out _ _ ⟨(F2.out _ (hO.suf sfx)), (F3.out _ (hO.suf sfx)), (F4.out _ (hO.suf sfx))⟩ (fun hS => ?_)
    clear hK K
    try simp only [Act.put, sb, s0, sz]
    refine tV 7 ⟨some 78, .move (.tmp 85), _, _, _, none⟩ hS ?_
    refine tV 8 ⟨some 86, .extract (.tmp 78) 0, _, _, _, none⟩ hS ?_
    refine tV 9 ⟨some 87, .extract (.tmp 78) 1, _, _, _, none⟩ hS ?_
    refine tV 10 ⟨some 23, .assign (.tmp 86), _, _, _, none⟩ hS ?_
    refine tV 11 ⟨some 24, .assign (.tmp 87), _, _, _, none⟩ hS ?_
    refine wpAnyH_done (by kernel_rfl) ?_ _
    all_goals
      clear hS hE
      have hE := hO
      clear hO
      go_wp2_with (first
        | go_skip
        | ((with_reducible (show Go.wpList _ _ _ (Go.Oper.mk _ (.load 25 (.tmp 9)) _ _ _ _ :: _) _ _)); refine wpl_loadF rfl rfl rfl (F1.out _ (hE.suf sfx)) ?_)
        | ((with_reducible (show Go.wpList _ _ _ (Go.Oper.mk _ (.load 25 (.tmp 12)) _ _ _ _ :: _) _ _)); refine wpl_loadF rfl rfl rfl (F2.out _ (hE.suf sfx)) ?_)
        | ((with_reducible (show Go.wpList _ _ _ (Go.Oper.mk _ (.load 25 (.tmp 15)) _ _ _ _ :: _) _ _)); refine wpl_loadF rfl rfl rfl (F3.out _ (hE.suf sfx)) ?_)
        | ((with_reducible (show Go.wpList _ _ _ (Go.Oper.mk _ (.load 25 (.tmp 18)) _ _ _ _ :: _) _ _)); refine wpl_loadF rfl rfl rfl (F4.out _ (hE.suf sfx)) ?_)
        | (clear D5; go_at_call 11; refine (HD34.out _ _ _ _ (hK3.suf sfx) (hK4.suf sfx) hE).mono ?_; clear hE; rintro e w2 ⟨v, h1, aa, cc, mm, h2, hE⟩; cases h1; cases h2; have K5 := SL.hid (row_knows hE); have cK5 := SL.hid (row_capQ hE 0 rfl))
        | (clear D6; go_at_call 11; refine (HD12.out _ _ _ _ (hK1.suf sfx) (hK2.suf sfx) hE).mono ?_; clear hE; rintro e w2 ⟨v, h1, aa, cc, mm, h2, hE⟩; cases h1; cases h2; have K6 := SL.hid (row_knows hE); have cK6 := SL.hid (row_capQ hE 0 rfl))
        | (clear D7; go_at_call 11; refine (HD13.out _ _ _ _ (hK1.suf sfx) (hK3.suf sfx) hE).mono ?_; clear hE; rintro e w2 ⟨v, h1, aa, cc, mm, h2, hE⟩; cases h1; cases h2; have K7 := SL.hid (row_knows hE); have cK7 := SL.hid (row_capQ hE 0 rfl))
        | (clear D8; go_at_call 11; refine (HD24.out _ _ _ _ (hK2.suf sfx) (hK4.suf sfx) hE).mono ?_; clear hE; rintro e w2 ⟨v, h1, aa, cc, mm, h2, hE⟩; cases h1; cases h2; have K8 := SL.hid (row_knows hE); have cK8 := SL.hid (row_capQ hE 0 rfl))
        | (clear D9; go_at_call 11; refine (HD14.out _ _ _ _ (hK1.suf sfx) (hK4.suf sfx) hE).mono ?_; clear hE; rintro e w2 ⟨v, h1, aa, cc, mm, h2, hE⟩; cases h1; cases h2; have K9 := SL.hid (row_knows hE); have cK9 := SL.hid (row_capQ hE 0 rfl))
        | (clear C3; go_at_call 24; refine (HC3.out _ _ _ _ _ _ cKk.out cK5.out (Kk.out.suf sfx) (K5.out.suf sfx) hE).mono ?_; clear hE; rintro e w2 ⟨v, h1, aa, cc, mm, h2, hE⟩; cases h1; cases h2; have Km := SL.hid (row_knows hE); have cKm := SL.hid (row_capQ hE 0 rfl))
        | (clear C4; go_at_call 24; refine (HC4.out _ _ _ _ _ _ cK6.out cKl.out (K6.out.suf sfx) (Kl.out.suf sfx) hE).mono ?_; clear hE; rintro e w2 ⟨v, h1, aa, cc, mm, h2, hE⟩; cases h1; cases h2; have Kn := SL.hid (row_knows hE); have cKn := SL.hid (row_capQ hE 0 rfl))
        | (clear R1; go_at_call 10; refine (HR13.out _ _ _ _ _ _ (Kk.out.suf sfx) (K7.out.suf sfx) hE).mono ?_; clear hE; rintro e w5 ⟨v, h1, h2, hE⟩; cases h1; cases h2)
        | (clear R2; go_at_call 10; refine (HR24.out _ _ _ _ _ _ (Kl.out.suf sfx) (K8.out.suf sfx) hE).mono ?_; clear hE; rintro e w5 ⟨v, h1, h2, hE⟩; cases h1; cases h2)
        | (clear R3; go_at_call 10; refine (HR14.out _ _ _ _ _ _ (Km.out.suf sfx) (Kn.out.suf sfx) hE).mono ?_; clear hE; rintro e w5 ⟨v, h1, h2, hE⟩; cases h1; cases h2)
        | (clear R4; go_at_call 10; refine (HR14.out _ _ _ _ _ _ (Km.out.suf sfx) (K9.out.suf sfx) hE).mono ?_; clear hE; rintro e w5 ⟨v, h1, h2, hE⟩; cases h1; cases h2)
        | (go_at_call 9; refine (wakes28_any hE).mono ?_; clear hE; rintro e w2 ⟨v, h1, h2, m9, hE⟩; cases h1; cases h2))
      refine bodyPost_ret (results_tmp rfl _ _ _) rfl ?_
      exact ⟨_, rfl, rfl, hE.suf sfx⟩
theorem DiffRoad_any {xs : List En} {ys : List En} {zs : List En} {us : List En} {a_xs : Option Addr} {c_xs : Nat} {a_ys : Option Addr} {c_ys : Nat} {a_zs : Option Addr} {c_zs : Nat} {a_us : Option Addr} {c_us : Nat} {l : List HProp} {w : World} (h_xs : Knows l (reads (.slice a_xs xs.length c_xs) xs.length (xs.flatMap enC))) (h_ys : Knows l (reads (.slice a_ys ys.length c_ys) ys.length (ys.flatMap enC))) (h_zs : Knows l (reads (.slice a_zs zs.length c_zs) zs.length (zs.flatMap enC))) (h_us : Knows l (reads (.slice a_us us.length c_us) us.length (us.flatMap enC))) (hE : Ent l w) :
    Calls Tryd.prog 7 #[.slice a_xs xs.length c_xs, .slice a_ys ys.length c_ys, .slice a_zs zs.length c_zs, .slice a_us us.length c_us] w (Ret fun v w' => v = .bool true ∧ Ent l w') := by
  cases e1 : treeP xs with
  | none => exact road_not (by rw [e1]; rfl) rfl rfl rfl (.inl rfl) h_xs h_ys h_zs h_us hE
  | some t1 =>
    cases e2 : treeP ys with
    | none => exact road_not rfl (by rw [e2]; rfl) rfl rfl (.inr (.inl rfl)) h_xs h_ys h_zs h_us hE
    | some t2 =>
      cases e3 : treeP zs with
      | none => exact road_not rfl rfl (by rw [e3]; rfl) rfl (.inr (.inr (.inl rfl))) h_xs h_ys h_zs h_us hE
      | some t3 =>
        cases e4 : treeP us with
        | none => exact road_not rfl rfl rfl (by rw [e4]; rfl) (.inr (.inr (.inr (rfl)))) h_xs h_ys h_zs h_us hE
        | some t4 =>
          exact road_yes e1 e2 e3 e4 h_xs h_ys h_zs h_us hE
theorem DiffRoad_in {xs : List En} {ys : List En} {zs : List En} {us : List En} {a_xs : Option Addr} {c_xs : Nat} {a_ys : Option Addr} {c_ys : Nat} {a_zs : Option Addr} {c_zs : Nat} {a_us : Option Addr} {c_us : Nat} {W : World} (h_xs : Knows [rest W fun _ => False] (reads (.slice a_xs xs.length c_xs) xs.length (xs.flatMap enC))) (h_ys : Knows [rest W fun _ => False] (reads (.slice a_ys ys.length c_ys) ys.length (ys.flatMap enC))) (h_zs : Knows [rest W fun _ => False] (reads (.slice a_zs zs.length c_zs) zs.length (zs.flatMap enC))) (h_us : Knows [rest W fun _ => False] (reads (.slice a_us us.length c_us) us.length (us.flatMap enC))) :
    Calls Tryd.prog 7 #[.slice a_xs xs.length c_xs, .slice a_ys ys.length c_ys, .slice a_zs zs.length c_zs, .slice a_us us.length c_us] W (Ret fun v w' => v = .bool true ∧ Ent [rest W fun _ => False] w') :=
  DiffRoad_any h_xs h_ys h_zs h_us (Ent.start W)
end Go.Proofs.YtcpgelpajppgdaaDoor
namespace Go.Proofs.YtcpgelpajppgdaaDoor
open Go.RowKit Go.SL Go.ChangeShapes Go.WideShapes Go.Deep

set_option maxRecDepth 100000 in
theorem open_ens {H : Type} {enc : TypeId × Value → H} {w : World} {held : Bool} {r : Reach} {b0 : Nat} {v : Value} {d : DataW H} {ps : List MemPlace}
    (hval : Value.okWide Tryd.prog w r b0 22 v) (h : DataW.Trod enc Tryd.prog w 0 (fun _ => true) held 22 v d ps) :
    ∃ (ao : Option Addr) (c : Nat) (xs : List En), v = .slice ao xs.length c ∧ xs.length ≤ c ∧ c ≤ maxLen ∧ (∀ x ∈ xs, True) ∧ reads v xs.length (xs.flatMap enC) w :=
  open_row Tryd.underlying22 enC (fun _ => True) enC_len (by omega) (by kernel_rfl) hval h (fun m cs y hl hy => by
    obtain ⟨ys, n, _, _, _, hyl, hg⟩ := DataW.trod_struct Tryd.underlying63 hy
    match cs, hl with
    | [c0, c1, c2], _ =>
      have g0 := hg 0 _ rfl
      have g1 := hg 1 _ rfl
      have g2 := hg 2 _ rfl
      match ys, hyl with
      | [y0, y1, y2], _ =>
        obtain ⟨a, q0, _, _⟩ := DataW.trod_string Tryd.underlying9 (show DataW.trod enc Tryd.prog w 0 (fun _ => true) held n 9 [c0] = some y0 from g0)
        obtain ⟨b, q1, _⟩ := DataW.trod_bool Tryd.underlying4 (show DataW.trod enc Tryd.prog w 0 (fun _ => true) held n 4 [c1] = some y1 from g1)
        obtain ⟨c, q2, _, _⟩ := DataW.trod_string Tryd.underlying9 (show DataW.trod enc Tryd.prog w 0 (fun _ => true) held n 9 [c2] = some y2 from g2)
        simp only [List.cons.injEq, and_true] at q0 q1 q2
        subst q0 q1 q2
        exact ⟨⟨a.data.toList, b, c.data.toList⟩, trivial, rfl⟩)
set_option maxRecDepth 100000 in
theorem open_rcs {H : Type} {enc : TypeId × Value → H} {w : World} {held : Bool} {r : Reach} {b0 : Nat} {v : Value} {d : DataW H} {ps : List MemPlace}
    (hval : Value.okWide Tryd.prog w r b0 33 v) (h : DataW.Trod enc Tryd.prog w 0 (fun _ => true) held 33 v d ps) :
    ∃ (ao : Option Addr) (c : Nat) (xs : List Ch), v = .slice ao xs.length c ∧ xs.length ≤ c ∧ c ≤ maxLen ∧ (∀ x ∈ xs, True) ∧ reads v xs.length (xs.flatMap chC) w :=
  open_row Tryd.underlying33 chC (fun _ => True) chC_len (by omega) (by kernel_rfl) hval h (fun m cs y hl hy => by
    obtain ⟨ys, n, _, _, _, hyl, hg⟩ := DataW.trod_struct Tryd.underlying74 hy
    match cs, hl with
    | [c0, c1, c2, c3, c4, c5, c6], _ =>
      have g0 := hg 0 _ rfl
      have g1 := hg 1 _ rfl
      have g2 := hg 2 _ rfl
      match ys, hyl with
      | [y0, y1, y2], _ =>
        obtain ⟨a, q0, _, _⟩ := DataW.trod_string Tryd.underlying9 (show DataW.trod enc Tryd.prog w 0 (fun _ => true) held n 9 [c0] = some y0 from g0)
        obtain ⟨zs1, n1, _, _, _, hzl1, hz1⟩ := DataW.trod_struct Tryd.underlying39 (show DataW.trod enc Tryd.prog w 0 (fun _ => true) held n 39 [c1, c2, c3] = some y1 from g1)
        have z10 := hz1 0 _ rfl
        have z11 := hz1 1 _ rfl
        have z12 := hz1 2 _ rfl
        match zs1, hzl1 with
        | [u10, u11, u12], _ =>
        obtain ⟨t1, r10, _⟩ := DataW.trod_bool Tryd.underlying4 (show DataW.trod enc Tryd.prog w 0 (fun _ => true) held n1 4 [c1] = some u10 from z10)
        obtain ⟨d1, r11, _⟩ := DataW.trod_bool Tryd.underlying4 (show DataW.trod enc Tryd.prog w 0 (fun _ => true) held n1 4 [c2] = some u11 from z11)
        obtain ⟨s1, r12, _, _⟩ := DataW.trod_string Tryd.underlying9 (show DataW.trod enc Tryd.prog w 0 (fun _ => true) held n1 9 [c3] = some u12 from z12)
        obtain ⟨zs2, n2, _, _, _, hzl2, hz2⟩ := DataW.trod_struct Tryd.underlying39 (show DataW.trod enc Tryd.prog w 0 (fun _ => true) held n 39 [c4, c5, c6] = some y2 from g2)
        have z20 := hz2 0 _ rfl
        have z21 := hz2 1 _ rfl
        have z22 := hz2 2 _ rfl
        match zs2, hzl2 with
        | [u20, u21, u22], _ =>
        obtain ⟨t2, r20, _⟩ := DataW.trod_bool Tryd.underlying4 (show DataW.trod enc Tryd.prog w 0 (fun _ => true) held n2 4 [c4] = some u20 from z20)
        obtain ⟨d2, r21, _⟩ := DataW.trod_bool Tryd.underlying4 (show DataW.trod enc Tryd.prog w 0 (fun _ => true) held n2 4 [c5] = some u21 from z21)
        obtain ⟨s2, r22, _, _⟩ := DataW.trod_string Tryd.underlying9 (show DataW.trod enc Tryd.prog w 0 (fun _ => true) held n2 9 [c6] = some u22 from z22)
        simp only [List.cons.injEq, and_true] at q0 r10 r11 r12 r20 r21 r22
        subst q0 r10 r11 r12 r20 r21 r22
        exact ⟨⟨a.data.toList, ⟨t1, d1, s1.data.toList⟩, ⟨t2, d2, s2.data.toList⟩⟩, trivial, rfl⟩)
end Go.Proofs.YtcpgelpajppgdaaDoor
