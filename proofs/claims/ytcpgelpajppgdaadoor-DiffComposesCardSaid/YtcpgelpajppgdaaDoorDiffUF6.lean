/-
  The program's may. (Printed by gen_dqn.py.)
-/
import Derived.Test.YtcpgelpajppgdaaDoorDiffUF5
namespace Go.Proofs.YtcpgelpajppgdaaDoor
open Go.RowKit Go.SL

set_option maxRecDepth 100000 in
set_option maxHeartbeats 16000000 in
attribute [-go_sem] Instr.loadAt Go.run_equalIn_agg in
theorem may_any {es : List Ch} (hn : es.length ≤ 100000) (hp : ∀ x ∈ es, x.path.length ≤ 100000) {ao : Option Addr} {c : Nat} {l : List HProp} {w : World} (hk : Knows l (reads (.slice ao es.length c) es.length (es.flatMap chC))) (hE : Ent l w) :
    Calls Tryd.prog 42 #[.slice ao es.length c] w (Ret (MPost es l)) := by
  have Hp := SL.hid hp
  clear hp
  go_enter Tryd.func42, Tryd.ntmps42
  go_wp2
  go_loopw [9] (fun i wr => MyRel es l i wr) (fun i _ => es.length - (intOf i).toNat)
  case atStart => exact ⟨0, Nat.zero_le _, rfl, by simpa using mayR_nil, hE⟩
  case round =>
    clear hE
    obtain ⟨k, hkl, rfl, hpre, hE⟩ := hrel
    by_cases hlt : k < es.length
    · obtain ⟨b, off, rfl, hz⟩ := ch_at (hk _ hE) hlt
      clear hz
      have hld := (load_dc (hk _ hE) hlt).1
      have Hst := SL.hid (mayR_at hlt hpre)
      have hxl := Hp.out es[k] (List.getElem_mem hlt)
      obtain ⟨x, hx⟩ : ∃ x, es[k] = x := ⟨_, rfl⟩
      have HX := SL.hid hx
      rw [hx] at hld Hst hxl
      clear hx hpre
      obtain ⟨xp, ⟨qt, qd, qb⟩, ⟨ut, ud, ub⟩⟩ := x
      simp only [chC] at hld
      simp only at hxl
      have hg : goodC ⟨xp, ⟨qt, qd, qb⟩, ⟨ut, ud, ub⟩⟩ = (splitE xp == 0 && (!(splitL xp).isEmpty && (!((⟨qt, qd, qb⟩ : Sd) == ⟨ut, ud, ub⟩) && (maySd ⟨qt, qd, qb⟩ && maySd ⟨ut, ud, ub⟩)))) := rfl
      have HA := SL.hid (fun (L : List HProp) (w : World) (h : Ent L w) => side_may_any ⟨qt, qd, qb⟩ h)
      have HB := SL.hid (fun (L : List HProp) (w : World) (h : Ent L w) => side_may_any ⟨ut, ud, ub⟩ h)
      have hEq := fun w => eqSd 9998 ⟨qt, qd, qb⟩ ⟨ut, ud, ub⟩ w
      have HS := SL.hid (fun (L : List HProp) (w : World) (h : Ent L w) => Split_any (p := xp) (by omega) h)
      have HO := SL.hid (fun (L : List HProp) (w : World) (q : List UInt8) (hq : q.length ≤ 100000) (h : Ent L w) => Order_any (p := q) (q := xp) hq hxl h)
      simp only [sdV] at HA HB
      simp only [sdC] at hEq
      obtain ⟨lp, hlp⟩ : ∃ lp, splitL xp = lp := ⟨_, rfl⟩
      obtain ⟨er, her⟩ : ∃ er, splitE xp = er := ⟨_, rfl⟩
      rw [hlp] at HS hg
      rw [her] at HS hg
      clear hlp her hxl
      rw [show lp.isEmpty = decide (lp.length = 0) by cases lp <;> simp] at hg
      obtain ⟨n, hln⟩ : ∃ n, lp.length = n := ⟨_, rfl⟩
      rw [hln] at HS hg
      clear hln
      generalize ((⟨qt, qd, qb⟩ : Sd) == ⟨ut, ud, ub⟩) = eq at *
      generalize maySd ⟨qt, qd, qb⟩ = m1 at *
      generalize maySd ⟨ut, ud, ub⟩ = m2 at *
      generalize goodC ⟨xp, ⟨qt, qd, qb⟩, ⟨ut, ud, ub⟩⟩ = g at *
      have Hg := SL.hid hg
      clear hg
      go_wp2_with (first
        | go_skip
        | ((with_reducible (show Go.wpList _ _ _ (Go.Oper.mk _ (.alloc _) _ _ _ _ :: _) _ _)); clear hld; refine wpl_alloc hE rfl rfl (by simp [go_sem]; rfl) ?_; clear hE; intro b4 w hE; simp only [Act.eval, Act.put, List.setIfInBounds_toArray, List.set_cons_zero, List.set_cons_succ, getD_lit, List.getD_cons_succ, List.getD_cons_zero, Value.cells] at hE)
        | ((with_reducible (show Go.wpList _ _ _ (Go.Oper.mk _ (.store 65 _ _) _ _ _ _ :: _) _ _)); (first | (refine wpl_storeW hE 0 rfl rfl rfl (xs := [.string ⟨xp.toArray⟩, .bool qt, .bool qd, .string ⟨qb.toArray⟩, .bool ut, .bool ud, .string ⟨ub.toArray⟩]) rfl rfl Tryd.sizeOf65 rfl (by simp [Value.oneCell']) rfl ?_) | (refine wpl_storeW hE 1 rfl rfl rfl (xs := [.string ⟨xp.toArray⟩, .bool qt, .bool qd, .string ⟨qb.toArray⟩, .bool ut, .bool ud, .string ⟨ub.toArray⟩]) rfl rfl Tryd.sizeOf65 rfl (by simp [Value.oneCell']) rfl ?_) | (refine wpl_storeW hE 2 rfl rfl rfl (xs := [.string ⟨xp.toArray⟩, .bool qt, .bool qd, .string ⟨qb.toArray⟩, .bool ut, .bool ud, .string ⟨ub.toArray⟩]) rfl rfl Tryd.sizeOf65 rfl (by simp [Value.oneCell']) rfl ?_) | (refine wpl_storeW hE 3 rfl rfl rfl (xs := [.string ⟨xp.toArray⟩, .bool qt, .bool qd, .string ⟨qb.toArray⟩, .bool ut, .bool ud, .string ⟨ub.toArray⟩]) rfl rfl Tryd.sizeOf65 rfl (by simp [Value.oneCell']) rfl ?_) | (refine wpl_storeW hE 4 rfl rfl rfl (xs := [.string ⟨xp.toArray⟩, .bool qt, .bool qd, .string ⟨qb.toArray⟩, .bool ut, .bool ud, .string ⟨ub.toArray⟩]) rfl rfl Tryd.sizeOf65 rfl (by simp [Value.oneCell']) rfl ?_) | (refine wpl_storeW hE 5 rfl rfl rfl (xs := [.string ⟨xp.toArray⟩, .bool qt, .bool qd, .string ⟨qb.toArray⟩, .bool ut, .bool ud, .string ⟨ub.toArray⟩]) rfl rfl Tryd.sizeOf65 rfl (by simp [Value.oneCell']) rfl ?_) | (refine wpl_storeW hE 6 rfl rfl rfl (xs := [.string ⟨xp.toArray⟩, .bool qt, .bool qd, .string ⟨qb.toArray⟩, .bool ut, .bool ud, .string ⟨ub.toArray⟩]) rfl rfl Tryd.sizeOf65 rfl (by simp [Value.oneCell']) rfl ?_) | (refine wpl_storeW hE 7 rfl rfl rfl (xs := [.string ⟨xp.toArray⟩, .bool qt, .bool qd, .string ⟨qb.toArray⟩, .bool ut, .bool ud, .string ⟨ub.toArray⟩]) rfl rfl Tryd.sizeOf65 rfl (by simp [Value.oneCell']) rfl ?_)); clear hE; intro w hE; simp only [List.set_cons_zero, List.set_cons_succ] at hE)
        | ((with_reducible (show Go.wpList _ _ _ (Go.Oper.mk _ (.load _ _) _ _ _ _ :: _) _ _)); (first | (refine wpl_load1 hE 0 rfl rfl rfl rfl (by simp [go_sem]) rfl ?_) | (refine wpl_load1 hE 1 rfl rfl rfl rfl (by simp [go_sem]) rfl ?_) | (refine wpl_load1 hE 2 rfl rfl rfl rfl (by simp [go_sem]) rfl ?_) | (refine wpl_load1 hE 3 rfl rfl rfl rfl (by simp [go_sem]) rfl ?_) | (refine wpl_load1 hE 4 rfl rfl rfl rfl (by simp [go_sem]) rfl ?_) | (refine wpl_load1 hE 5 rfl rfl rfl rfl (by simp [go_sem]) rfl ?_) | (refine wpl_load1 hE 6 rfl rfl rfl rfl (by simp [go_sem]) rfl ?_) | (refine wpl_load1 hE 7 rfl rfl rfl rfl (by simp [go_sem]) rfl ?_)))
        | (go_at_call 36; refine (HS.out _ _ hE).mono ?_; clear hE; rintro e w2 ⟨v, h1, a1, c1, h2, hE⟩; cases h1; cases h2))
      have FB := SL.hid (show ∀ w, Ent (pt b4 (.cells #[.string ⟨xp.toArray⟩, .bool qt, .bool qd, .string ⟨qb.toArray⟩, .bool ut, .bool ud, .string ⟨ub.toArray⟩] 65) :: l) w →
          (Instr.loadAt 9 (.pointer (some ⟨b4, 0, none⟩))).run Tryd.prog w = .ok (.string ⟨xp.toArray⟩) w ∧ (Instr.loadAt 36 (.pointer (some ⟨b4, 1, none⟩))).run Tryd.prog w = .ok (.agg #[.bool qt, .bool qd, .string ⟨qb.toArray⟩]) w ∧ (Instr.loadAt 36 (.pointer (some ⟨b4, 4, none⟩))).run Tryd.prog w = .ok (.agg #[.bool ut, .bool ud, .string ⟨ub.toArray⟩]) w from fun w h =>
        ⟨run_load1 h 0 rfl (by simp [go_sem]) rfl, run_loadA h 0 rfl Tryd.isAgg36 Tryd.sizeOf36 (vs := [.bool qt, .bool qd, .string ⟨qb.toArray⟩]) rfl (fun j hj => by match j, hj with | 0, _ => rfl | 1, _ => rfl | 2, _ => rfl), run_loadA h 0 rfl Tryd.isAgg36 Tryd.sizeOf36 (vs := [.bool ut, .bool ud, .string ⟨ub.toArray⟩]) rfl (fun j hj => by match j, hj with | 0, _ => rfl | 1, _ => rfl | 2, _ => rfl)⟩)
      cases hne : (er != 0)
      case' true =>
        have Hb := SL.hid (show g = false by rw [Hg.out]; have he : (er == 0) = false := by simpa using hne
                                             rw [he, Bool.false_and])
        have hO := hE.drew
        refine wp_region_held_drew (S := (fun w' => ((Instr.loadAt 9 (.pointer (some ⟨b4, 0, none⟩))).run Tryd.prog w' = .ok (.string ⟨xp.toArray⟩) w') ∧ ((Instr.loadAt 36 (.pointer (some ⟨b4, 1, none⟩))).run Tryd.prog w' = .ok (.agg #[.bool qt, .bool qd, .string ⟨qb.toArray⟩]) w') ∧ ((Instr.loadAt 36 (.pointer (some ⟨b4, 4, none⟩))).run Tryd.prog w' = .ok (.agg #[.bool ut, .bool ud, .string ⟨ub.toArray⟩]) w'))) (by kernel_rfl) ⟨(FB.out _ (hO.suf sfx)).1, (FB.out _ (hO.suf sfx)).2.1, (FB.out _ (hO.suf sfx)).2.2⟩ (fun hS => ?_)
        refine tV 0 ⟨some 20, .move (.tmp 6), _, _, _, none⟩ hS ?_
        refine tV 1 ⟨some 21, .binOp .neq 44 (.tmp 20) (.const (.int .i64 0)) 44, _, _, _, none⟩ hS ?_
        refine tV 2 ⟨some 22, .move (.tmp 21), _, _, _, none⟩ hS ?_
        refine tU 3 ⟨some 23, .move (.tmp 5), _, _, _, some (2, false)⟩ hS ?_
        refine tU 4 ⟨some 24, .call { callee := .builtin .len, args := #[.tmp 23], argTypes := #[75] }, _, _, _, some (2, false)⟩ hS ?_
        refine tU 5 ⟨some 25, .binOp .eql 3 (.tmp 24) (.const (.int .i64 0)) 3, _, _, _, some (2, false)⟩ hS ?_
        refine tV 6 ⟨some 26, .pick (.tmp 22) (.const (.bool true)) (.tmp 25), _, _, _, none⟩ hS ?_
        refine tV 7 ⟨some 27, .move (.tmp 26), _, _, _, none⟩ hS ?_
        refine tU 8 ⟨some 28, .move (.tmp 3), _, _, _, some (7, false)⟩ hS ?_
        refine tU 9 ⟨some 29, .binOp .gtr 3 (.tmp 28) (.const (.int .i64 0)) 3, _, _, _, some (7, false)⟩ hS ?_
        refine tU 10 ⟨some 30, .move (.tmp 29), _, _, _, some (7, false)⟩ hS ?_
        refine tU 11 ⟨some 31, .move (.tmp 0), _, _, _, some (10, true)⟩ hS ?_
        refine tU 12 ⟨some 32, .move (.tmp 3), _, _, _, some (10, true)⟩ hS ?_
        refine tU 13 ⟨some 33, .binOp .sub 3 (.tmp 32) (.const (.int .i64 1)) 3, _, _, _, some (10, true)⟩ hS ?_
        refine tU 14 ⟨some 34, .indexAddr 30 (.tmp 31) (.tmp 33), _, _, _, some (10, true)⟩ hS ?_
        refine tU 15 ⟨some 35, .fieldAddr 65 (.tmp 34) 0, _, _, _, some (10, true)⟩ hS ?_
        refine tU 16 ⟨some 36, .load 9 (.tmp 35), _, _, _, some (10, true)⟩ hS ?_
        refine tU 17 ⟨some 37, .fieldAddr 65 (.tmp 4) 0, _, _, _, some (10, true)⟩ hS ?_
        refine tU 18 ⟨some 38, .load 9 (.tmp 37), _, _, _, some (10, true)⟩ hS ?_
        refine tU 19 ⟨some 39, .call { callee := .value (.func 17), args := #[.tmp 36, .tmp 38], argTypes := #[9, 9] }, _, _, _, some (10, true)⟩ hS ?_
        refine tU 20 ⟨some 40, .binOp .geq 3 (.tmp 39) (.const (.int .i64 0)) 3, _, _, _, some (10, true)⟩ hS ?_
        refine tU 21 ⟨some 41, .pick (.tmp 30) (.tmp 40) (.const (.bool false)), _, _, _, some (7, false)⟩ hS ?_
        refine tV 22 ⟨some 42, .pick (.tmp 27) (.const (.bool true)) (.tmp 41), _, _, _, none⟩ hS ?_
        refine tV 23 ⟨some 43, .move (.tmp 42), _, _, _, none⟩ hS ?_
        refine tU 24 ⟨some 44, .fieldAddr 65 (.tmp 4) 1, _, _, _, some (23, false)⟩ hS ?_
        refine tU 25 ⟨some 45, .load 36 (.tmp 44), _, _, _, some (23, false)⟩ hS ?_
        refine tU 26 ⟨some 46, .fieldAddr 65 (.tmp 4) 2, _, _, _, some (23, false)⟩ hS ?_
        refine tU 27 ⟨some 47, .load 36 (.tmp 46), _, _, _, some (23, false)⟩ hS ?_
        refine tU 28 ⟨some 48, .binOp .eql 36 (.tmp 45) (.tmp 47) 36, _, _, _, some (23, false)⟩ hS ?_
        refine tV 29 ⟨some 49, .pick (.tmp 43) (.const (.bool true)) (.tmp 48), _, _, _, none⟩ hS ?_
        refine tV 30 ⟨some 50, .move (.tmp 49), _, _, _, none⟩ hS ?_
        refine tU 31 ⟨some 51, .fieldAddr 65 (.tmp 4) 1, _, _, _, some (30, false)⟩ hS ?_
        refine tU 32 ⟨some 52, .load 36 (.tmp 51), _, _, _, some (30, false)⟩ hS ?_
        refine tU 33 ⟨some 53, .call { callee := .value (.func 63), args := #[.tmp 52], argTypes := #[36] }, _, _, _, some (30, false)⟩ hS ?_
        refine tU 34 ⟨some 54, .unOp Go.UnOp.not 4 (.tmp 53), _, _, _, some (30, false)⟩ hS ?_
        refine tV 35 ⟨some 55, .pick (.tmp 50) (.const (.bool true)) (.tmp 54), _, _, _, none⟩ hS ?_
        refine tV 36 ⟨some 56, .move (.tmp 55), _, _, _, none⟩ hS ?_
        refine tU 37 ⟨some 57, .fieldAddr 65 (.tmp 4) 2, _, _, _, some (36, false)⟩ hS ?_
        refine tU 38 ⟨some 58, .load 36 (.tmp 57), _, _, _, some (36, false)⟩ hS ?_
        refine tU 39 ⟨some 59, .call { callee := .value (.func 63), args := #[.tmp 58], argTypes := #[36] }, _, _, _, some (36, false)⟩ hS ?_
        refine tU 40 ⟨some 60, .unOp Go.UnOp.not 4 (.tmp 59), _, _, _, some (36, false)⟩ hS ?_
        refine tV 41 ⟨some 61, .pick (.tmp 56) (.const (.bool true)) (.tmp 60), _, _, _, none⟩ hS ?_
        refine wpAnyH_done (by kernel_rfl) ?_ _
        all_goals
          clear hS hE
          have hE := hO.tail.tail
          clear hO
          go_wp2
          refine bodyPost_ret (results_tmp rfl _ _ _) rfl ?_
          exact ⟨_, rfl, .mk false hE (iff_of_false (by decide) (fun h => by have := (Hst.out.2 h).1; rw [Hb.out] at this; cases this))⟩
      obtain rfl : er = 0 := by simpa using hne
      clear hne
      cases n
      case' zero =>
        have Hb := SL.hid (show g = false by rw [Hg.out]; simp)
        have hO := hE.drew
        refine wp_region_held_drew (S := (fun w' => ((Instr.loadAt 9 (.pointer (some ⟨b4, 0, none⟩))).run Tryd.prog w' = .ok (.string ⟨xp.toArray⟩) w') ∧ ((Instr.loadAt 36 (.pointer (some ⟨b4, 1, none⟩))).run Tryd.prog w' = .ok (.agg #[.bool qt, .bool qd, .string ⟨qb.toArray⟩]) w') ∧ ((Instr.loadAt 36 (.pointer (some ⟨b4, 4, none⟩))).run Tryd.prog w' = .ok (.agg #[.bool ut, .bool ud, .string ⟨ub.toArray⟩]) w'))) (by kernel_rfl) ⟨(FB.out _ (hO.suf sfx)).1, (FB.out _ (hO.suf sfx)).2.1, (FB.out _ (hO.suf sfx)).2.2⟩ (fun hS => ?_)
        refine tV 0 ⟨some 20, .move (.tmp 6), _, _, _, none⟩ hS ?_
        refine tV 1 ⟨some 21, .binOp .neq 44 (.tmp 20) (.const (.int .i64 0)) 44, _, _, _, none⟩ hS ?_
        refine tV 2 ⟨some 22, .move (.tmp 21), _, _, _, none⟩ hS ?_
        refine tV 3 ⟨some 23, .move (.tmp 5), _, _, _, some (2, false)⟩ hS ?_
        refine tV 4 ⟨some 24, .call { callee := .builtin .len, args := #[.tmp 23], argTypes := #[75] }, _, _, _, some (2, false)⟩ hS ?_
        refine tV 5 ⟨some 25, .binOp .eql 3 (.tmp 24) (.const (.int .i64 0)) 3, _, _, _, some (2, false)⟩ hS ?_
        refine tV 6 ⟨some 26, .pick (.tmp 22) (.const (.bool true)) (.tmp 25), _, _, _, none⟩ hS ?_
        refine tV 7 ⟨some 27, .move (.tmp 26), _, _, _, none⟩ hS ?_
        refine tU 8 ⟨some 28, .move (.tmp 3), _, _, _, some (7, false)⟩ hS ?_
        refine tU 9 ⟨some 29, .binOp .gtr 3 (.tmp 28) (.const (.int .i64 0)) 3, _, _, _, some (7, false)⟩ hS ?_
        refine tU 10 ⟨some 30, .move (.tmp 29), _, _, _, some (7, false)⟩ hS ?_
        refine tU 11 ⟨some 31, .move (.tmp 0), _, _, _, some (10, true)⟩ hS ?_
        refine tU 12 ⟨some 32, .move (.tmp 3), _, _, _, some (10, true)⟩ hS ?_
        refine tU 13 ⟨some 33, .binOp .sub 3 (.tmp 32) (.const (.int .i64 1)) 3, _, _, _, some (10, true)⟩ hS ?_
        refine tU 14 ⟨some 34, .indexAddr 30 (.tmp 31) (.tmp 33), _, _, _, some (10, true)⟩ hS ?_
        refine tU 15 ⟨some 35, .fieldAddr 65 (.tmp 34) 0, _, _, _, some (10, true)⟩ hS ?_
        refine tU 16 ⟨some 36, .load 9 (.tmp 35), _, _, _, some (10, true)⟩ hS ?_
        refine tU 17 ⟨some 37, .fieldAddr 65 (.tmp 4) 0, _, _, _, some (10, true)⟩ hS ?_
        refine tU 18 ⟨some 38, .load 9 (.tmp 37), _, _, _, some (10, true)⟩ hS ?_
        refine tU 19 ⟨some 39, .call { callee := .value (.func 17), args := #[.tmp 36, .tmp 38], argTypes := #[9, 9] }, _, _, _, some (10, true)⟩ hS ?_
        refine tU 20 ⟨some 40, .binOp .geq 3 (.tmp 39) (.const (.int .i64 0)) 3, _, _, _, some (10, true)⟩ hS ?_
        refine tU 21 ⟨some 41, .pick (.tmp 30) (.tmp 40) (.const (.bool false)), _, _, _, some (7, false)⟩ hS ?_
        refine tV 22 ⟨some 42, .pick (.tmp 27) (.const (.bool true)) (.tmp 41), _, _, _, none⟩ hS ?_
        refine tV 23 ⟨some 43, .move (.tmp 42), _, _, _, none⟩ hS ?_
        refine tU 24 ⟨some 44, .fieldAddr 65 (.tmp 4) 1, _, _, _, some (23, false)⟩ hS ?_
        refine tU 25 ⟨some 45, .load 36 (.tmp 44), _, _, _, some (23, false)⟩ hS ?_
        refine tU 26 ⟨some 46, .fieldAddr 65 (.tmp 4) 2, _, _, _, some (23, false)⟩ hS ?_
        refine tU 27 ⟨some 47, .load 36 (.tmp 46), _, _, _, some (23, false)⟩ hS ?_
        refine tU 28 ⟨some 48, .binOp .eql 36 (.tmp 45) (.tmp 47) 36, _, _, _, some (23, false)⟩ hS ?_
        refine tV 29 ⟨some 49, .pick (.tmp 43) (.const (.bool true)) (.tmp 48), _, _, _, none⟩ hS ?_
        refine tV 30 ⟨some 50, .move (.tmp 49), _, _, _, none⟩ hS ?_
        refine tU 31 ⟨some 51, .fieldAddr 65 (.tmp 4) 1, _, _, _, some (30, false)⟩ hS ?_
        refine tU 32 ⟨some 52, .load 36 (.tmp 51), _, _, _, some (30, false)⟩ hS ?_
        refine tU 33 ⟨some 53, .call { callee := .value (.func 63), args := #[.tmp 52], argTypes := #[36] }, _, _, _, some (30, false)⟩ hS ?_
        refine tU 34 ⟨some 54, .unOp Go.UnOp.not 4 (.tmp 53), _, _, _, some (30, false)⟩ hS ?_
        refine tV 35 ⟨some 55, .pick (.tmp 50) (.const (.bool true)) (.tmp 54), _, _, _, none⟩ hS ?_
        refine tV 36 ⟨some 56, .move (.tmp 55), _, _, _, none⟩ hS ?_
        refine tU 37 ⟨some 57, .fieldAddr 65 (.tmp 4) 2, _, _, _, some (36, false)⟩ hS ?_
        refine tU 38 ⟨some 58, .load 36 (.tmp 57), _, _, _, some (36, false)⟩ hS ?_
        refine tU 39 ⟨some 59, .call { callee := .value (.func 63), args := #[.tmp 58], argTypes := #[36] }, _, _, _, some (36, false)⟩ hS ?_
        refine tU 40 ⟨some 60, .unOp Go.UnOp.not 4 (.tmp 59), _, _, _, some (36, false)⟩ hS ?_
        refine tV 41 ⟨some 61, .pick (.tmp 56) (.const (.bool true)) (.tmp 60), _, _, _, none⟩ hS ?_
        refine wpAnyH_done (by kernel_rfl) ?_ _
        all_goals
          clear hS hE
          have hE := hO.tail.tail
          clear hO
          go_wp2
          refine bodyPost_ret (results_tmp rfl _ _ _) rfl ?_
          exact ⟨_, rfl, .mk false hE (iff_of_false (by decide) (fun h => by have := (Hst.out.2 h).1; rw [Hb.out] at this; cases this))⟩
      next n =>
      have hnz : ((n : Int) + 1 == 0) = false := by rw [beq_eq_false_iff_ne]; omega
      cases k with
      | zero =>
        cases eq
        case' true =>
          have Hb := SL.hid (show g = false by rw [Hg.out]; simp)
          have hO := hE.drew
          refine wp_region_held_drew (S := (fun w' => ((Instr.loadAt 9 (.pointer (some ⟨b4, 0, none⟩))).run Tryd.prog w' = .ok (.string ⟨xp.toArray⟩) w') ∧ ((Instr.loadAt 36 (.pointer (some ⟨b4, 1, none⟩))).run Tryd.prog w' = .ok (.agg #[.bool qt, .bool qd, .string ⟨qb.toArray⟩]) w') ∧ ((Instr.loadAt 36 (.pointer (some ⟨b4, 4, none⟩))).run Tryd.prog w' = .ok (.agg #[.bool ut, .bool ud, .string ⟨ub.toArray⟩]) w'))) (by kernel_rfl) ⟨(FB.out _ (hO.suf sfx)).1, (FB.out _ (hO.suf sfx)).2.1, (FB.out _ (hO.suf sfx)).2.2⟩ (fun hS => ?_)
          refine tV 0 ⟨some 20, .move (.tmp 6), _, _, _, none⟩ hS ?_
          refine tV 1 ⟨some 21, .binOp .neq 44 (.tmp 20) (.const (.int .i64 0)) 44, _, _, _, none⟩ hS ?_
          refine tV 2 ⟨some 22, .move (.tmp 21), _, _, _, none⟩ hS ?_
          refine tV 3 ⟨some 23, .move (.tmp 5), _, _, _, some (2, false)⟩ hS ?_
          refine tV 4 ⟨some 24, .call { callee := .builtin .len, args := #[.tmp 23], argTypes := #[75] }, _, _, _, some (2, false)⟩ hS ?_
          refine tV 5 ⟨some 25, .binOp .eql 3 (.tmp 24) (.const (.int .i64 0)) 3, _, _, _, some (2, false)⟩ hS ?_
          refine tV 6 ⟨some 26, .pick (.tmp 22) (.const (.bool true)) (.tmp 25), _, _, _, none⟩ hS ?_
          refine tV 7 ⟨some 27, .move (.tmp 26), _, _, _, none⟩ hS ?_
          refine tV 8 ⟨some 28, .move (.tmp 3), _, _, _, some (7, false)⟩ hS ?_
          refine tV 9 ⟨some 29, .binOp .gtr 3 (.tmp 28) (.const (.int .i64 0)) 3, _, _, _, some (7, false)⟩ hS ?_
          refine tV 10 ⟨some 30, .move (.tmp 29), _, _, _, some (7, false)⟩ hS ?_
          refine tU 11 ⟨some 31, .move (.tmp 0), _, _, _, some (10, true)⟩ hS ?_
          refine tU 12 ⟨some 32, .move (.tmp 3), _, _, _, some (10, true)⟩ hS ?_
          refine tU 13 ⟨some 33, .binOp .sub 3 (.tmp 32) (.const (.int .i64 1)) 3, _, _, _, some (10, true)⟩ hS ?_
          refine tU 14 ⟨some 34, .indexAddr 30 (.tmp 31) (.tmp 33), _, _, _, some (10, true)⟩ hS ?_
          refine tU 15 ⟨some 35, .fieldAddr 65 (.tmp 34) 0, _, _, _, some (10, true)⟩ hS ?_
          refine tU 16 ⟨some 36, .load 9 (.tmp 35), _, _, _, some (10, true)⟩ hS ?_
          refine tU 17 ⟨some 37, .fieldAddr 65 (.tmp 4) 0, _, _, _, some (10, true)⟩ hS ?_
          refine tU 18 ⟨some 38, .load 9 (.tmp 37), _, _, _, some (10, true)⟩ hS ?_
          refine tU 19 ⟨some 39, .call { callee := .value (.func 17), args := #[.tmp 36, .tmp 38], argTypes := #[9, 9] }, _, _, _, some (10, true)⟩ hS ?_
          refine tU 20 ⟨some 40, .binOp .geq 3 (.tmp 39) (.const (.int .i64 0)) 3, _, _, _, some (10, true)⟩ hS ?_
          refine tV 21 ⟨some 41, .pick (.tmp 30) (.tmp 40) (.const (.bool false)), _, _, _, some (7, false)⟩ hS ?_
          refine tV 22 ⟨some 42, .pick (.tmp 27) (.const (.bool true)) (.tmp 41), _, _, _, none⟩ hS ?_
          refine tV 23 ⟨some 43, .move (.tmp 42), _, _, _, none⟩ hS ?_
          refine tV 24 ⟨some 44, .fieldAddr 65 (.tmp 4) 1, _, _, _, some (23, false)⟩ hS ?_
          refine tL 25 ⟨some 45, .load 36 (.tmp 44), _, _, _, some (23, false)⟩ hS ?_
          refine tV 26 ⟨some 46, .fieldAddr 65 (.tmp 4) 2, _, _, _, some (23, false)⟩ hS ?_
          refine tL 27 ⟨some 47, .load 36 (.tmp 46), _, _, _, some (23, false)⟩ hS ?_
          refine tV 28 ⟨some 48, .binOp .eql 36 (.tmp 45) (.tmp 47) 36, _, _, _, some (23, false)⟩ hS ?_
          refine tV 29 ⟨some 49, .pick (.tmp 43) (.const (.bool true)) (.tmp 48), _, _, _, none⟩ hS ?_
          refine tV 30 ⟨some 50, .move (.tmp 49), _, _, _, none⟩ hS ?_
          refine tU 31 ⟨some 51, .fieldAddr 65 (.tmp 4) 1, _, _, _, some (30, false)⟩ hS ?_
          refine tU 32 ⟨some 52, .load 36 (.tmp 51), _, _, _, some (30, false)⟩ hS ?_
          refine tU 33 ⟨some 53, .call { callee := .value (.func 63), args := #[.tmp 52], argTypes := #[36] }, _, _, _, some (30, false)⟩ hS ?_
          refine tU 34 ⟨some 54, .unOp Go.UnOp.not 4 (.tmp 53), _, _, _, some (30, false)⟩ hS ?_
          refine tV 35 ⟨some 55, .pick (.tmp 50) (.const (.bool true)) (.tmp 54), _, _, _, none⟩ hS ?_
          refine tV 36 ⟨some 56, .move (.tmp 55), _, _, _, none⟩ hS ?_
          refine tU 37 ⟨some 57, .fieldAddr 65 (.tmp 4) 2, _, _, _, some (36, false)⟩ hS ?_
          refine tU 38 ⟨some 58, .load 36 (.tmp 57), _, _, _, some (36, false)⟩ hS ?_
          refine tU 39 ⟨some 59, .call { callee := .value (.func 63), args := #[.tmp 58], argTypes := #[36] }, _, _, _, some (36, false)⟩ hS ?_
          refine tU 40 ⟨some 60, .unOp Go.UnOp.not 4 (.tmp 59), _, _, _, some (36, false)⟩ hS ?_
          refine tV 41 ⟨some 61, .pick (.tmp 56) (.const (.bool true)) (.tmp 60), _, _, _, none⟩ hS ?_
          refine wpAnyH_done (by kernel_rfl) ?_ _
          all_goals
            clear hS hE
            have hE := hO.tail.tail
            clear hO
            go_wp2
            refine bodyPost_ret (results_tmp rfl _ _ _) rfl ?_
            exact ⟨_, rfl, .mk false hE (iff_of_false (by decide) (fun h => by have := (Hst.out.2 h).1; rw [Hb.out] at this; cases this))⟩
        cases m1
        case' false =>
          have Hb := SL.hid (show g = false by rw [Hg.out]; simp)
          have hO := hE.drew
          refine wp_region_held_drew (S := (fun w' => ((Instr.loadAt 9 (.pointer (some ⟨b4, 0, none⟩))).run Tryd.prog w' = .ok (.string ⟨xp.toArray⟩) w') ∧ ((Instr.loadAt 36 (.pointer (some ⟨b4, 1, none⟩))).run Tryd.prog w' = .ok (.agg #[.bool qt, .bool qd, .string ⟨qb.toArray⟩]) w') ∧ ((Instr.loadAt 36 (.pointer (some ⟨b4, 4, none⟩))).run Tryd.prog w' = .ok (.agg #[.bool ut, .bool ud, .string ⟨ub.toArray⟩]) w'))) (by kernel_rfl) ⟨(FB.out _ (hO.suf sfx)).1, (FB.out _ (hO.suf sfx)).2.1, (FB.out _ (hO.suf sfx)).2.2⟩ (fun hS => ?_)
          refine tV 0 ⟨some 20, .move (.tmp 6), _, _, _, none⟩ hS ?_
          refine tV 1 ⟨some 21, .binOp .neq 44 (.tmp 20) (.const (.int .i64 0)) 44, _, _, _, none⟩ hS ?_
          refine tV 2 ⟨some 22, .move (.tmp 21), _, _, _, none⟩ hS ?_
          refine tV 3 ⟨some 23, .move (.tmp 5), _, _, _, some (2, false)⟩ hS ?_
          refine tV 4 ⟨some 24, .call { callee := .builtin .len, args := #[.tmp 23], argTypes := #[75] }, _, _, _, some (2, false)⟩ hS ?_
          refine tV 5 ⟨some 25, .binOp .eql 3 (.tmp 24) (.const (.int .i64 0)) 3, _, _, _, some (2, false)⟩ hS ?_
          refine tV 6 ⟨some 26, .pick (.tmp 22) (.const (.bool true)) (.tmp 25), _, _, _, none⟩ hS ?_
          refine tV 7 ⟨some 27, .move (.tmp 26), _, _, _, none⟩ hS ?_
          refine tV 8 ⟨some 28, .move (.tmp 3), _, _, _, some (7, false)⟩ hS ?_
          refine tV 9 ⟨some 29, .binOp .gtr 3 (.tmp 28) (.const (.int .i64 0)) 3, _, _, _, some (7, false)⟩ hS ?_
          refine tV 10 ⟨some 30, .move (.tmp 29), _, _, _, some (7, false)⟩ hS ?_
          refine tU 11 ⟨some 31, .move (.tmp 0), _, _, _, some (10, true)⟩ hS ?_
          refine tU 12 ⟨some 32, .move (.tmp 3), _, _, _, some (10, true)⟩ hS ?_
          refine tU 13 ⟨some 33, .binOp .sub 3 (.tmp 32) (.const (.int .i64 1)) 3, _, _, _, some (10, true)⟩ hS ?_
          refine tU 14 ⟨some 34, .indexAddr 30 (.tmp 31) (.tmp 33), _, _, _, some (10, true)⟩ hS ?_
          refine tU 15 ⟨some 35, .fieldAddr 65 (.tmp 34) 0, _, _, _, some (10, true)⟩ hS ?_
          refine tU 16 ⟨some 36, .load 9 (.tmp 35), _, _, _, some (10, true)⟩ hS ?_
          refine tU 17 ⟨some 37, .fieldAddr 65 (.tmp 4) 0, _, _, _, some (10, true)⟩ hS ?_
          refine tU 18 ⟨some 38, .load 9 (.tmp 37), _, _, _, some (10, true)⟩ hS ?_
          refine tU 19 ⟨some 39, .call { callee := .value (.func 17), args := #[.tmp 36, .tmp 38], argTypes := #[9, 9] }, _, _, _, some (10, true)⟩ hS ?_
          refine tU 20 ⟨some 40, .binOp .geq 3 (.tmp 39) (.const (.int .i64 0)) 3, _, _, _, some (10, true)⟩ hS ?_
          refine tV 21 ⟨some 41, .pick (.tmp 30) (.tmp 40) (.const (.bool false)), _, _, _, some (7, false)⟩ hS ?_
          refine tV 22 ⟨some 42, .pick (.tmp 27) (.const (.bool true)) (.tmp 41), _, _, _, none⟩ hS ?_
          refine tV 23 ⟨some 43, .move (.tmp 42), _, _, _, none⟩ hS ?_
          refine tV 24 ⟨some 44, .fieldAddr 65 (.tmp 4) 1, _, _, _, some (23, false)⟩ hS ?_
          refine tL 25 ⟨some 45, .load 36 (.tmp 44), _, _, _, some (23, false)⟩ hS ?_
          refine tV 26 ⟨some 46, .fieldAddr 65 (.tmp 4) 2, _, _, _, some (23, false)⟩ hS ?_
          refine tL 27 ⟨some 47, .load 36 (.tmp 46), _, _, _, some (23, false)⟩ hS ?_
          refine tV 28 ⟨some 48, .binOp .eql 36 (.tmp 45) (.tmp 47) 36, _, _, _, some (23, false)⟩ hS ?_
          refine tV 29 ⟨some 49, .pick (.tmp 43) (.const (.bool true)) (.tmp 48), _, _, _, none⟩ hS ?_
          refine tV 30 ⟨some 50, .move (.tmp 49), _, _, _, none⟩ hS ?_
          refine tV 31 ⟨some 51, .fieldAddr 65 (.tmp 4) 1, _, _, _, some (30, false)⟩ hS ?_
          refine tL 32 ⟨some 52, .load 36 (.tmp 51), _, _, _, some (30, false)⟩ hS ?_
          refine wpAnyH_ready (rs := [33]) (by kernel_rfl) (by simp) ?_
          refine (AllReadyH.cons (o := ⟨some 53, .call { callee := .value (.func 63), args := #[.tmp 52], argTypes := #[36] }, _, _, _, some (30, false)⟩) rfl (fun K hK => ?_) AllReadyH.nil)
          (go_simp; refine (HA.out _ _ hO).mono ?_; clear hO; rintro e w5 ⟨v, h1, h2, hO⟩; cases h1; cases h2)
          refine hK.out _ _ ⟨(FB.out _ (hO.suf sfx)).1, (FB.out _ (hO.suf sfx)).2.1, (FB.out _ (hO.suf sfx)).2.2⟩ (fun hS => ?_)
          clear hK K
          try simp only [Act.put, sb, s0, sz]
          refine tV 34 ⟨some 54, .unOp Go.UnOp.not 4 (.tmp 53), _, _, _, some (30, false)⟩ hS ?_
          refine tV 35 ⟨some 55, .pick (.tmp 50) (.const (.bool true)) (.tmp 54), _, _, _, none⟩ hS ?_
          refine tV 36 ⟨some 56, .move (.tmp 55), _, _, _, none⟩ hS ?_
          refine tU 37 ⟨some 57, .fieldAddr 65 (.tmp 4) 2, _, _, _, some (36, false)⟩ hS ?_
          refine tU 38 ⟨some 58, .load 36 (.tmp 57), _, _, _, some (36, false)⟩ hS ?_
          refine tU 39 ⟨some 59, .call { callee := .value (.func 63), args := #[.tmp 58], argTypes := #[36] }, _, _, _, some (36, false)⟩ hS ?_
          refine tU 40 ⟨some 60, .unOp Go.UnOp.not 4 (.tmp 59), _, _, _, some (36, false)⟩ hS ?_
          refine tV 41 ⟨some 61, .pick (.tmp 56) (.const (.bool true)) (.tmp 60), _, _, _, none⟩ hS ?_
          refine wpAnyH_done (by kernel_rfl) ?_ _
          all_goals
            clear hS hE
            have hE := hO.tail.tail
            clear hO
            go_wp2
            refine bodyPost_ret (results_tmp rfl _ _ _) rfl ?_
            exact ⟨_, rfl, .mk false hE (iff_of_false (by decide) (fun h => by have := (Hst.out.2 h).1; rw [Hb.out] at this; cases this))⟩
        cases m2
        case' false =>
          have Hb := SL.hid (show g = false by rw [Hg.out]; simp)
          have hO := hE.drew
          refine wp_region_held_drew (S := (fun w' => ((Instr.loadAt 9 (.pointer (some ⟨b4, 0, none⟩))).run Tryd.prog w' = .ok (.string ⟨xp.toArray⟩) w') ∧ ((Instr.loadAt 36 (.pointer (some ⟨b4, 1, none⟩))).run Tryd.prog w' = .ok (.agg #[.bool qt, .bool qd, .string ⟨qb.toArray⟩]) w') ∧ ((Instr.loadAt 36 (.pointer (some ⟨b4, 4, none⟩))).run Tryd.prog w' = .ok (.agg #[.bool ut, .bool ud, .string ⟨ub.toArray⟩]) w'))) (by kernel_rfl) ⟨(FB.out _ (hO.suf sfx)).1, (FB.out _ (hO.suf sfx)).2.1, (FB.out _ (hO.suf sfx)).2.2⟩ (fun hS => ?_)
          refine tV 0 ⟨some 20, .move (.tmp 6), _, _, _, none⟩ hS ?_
          refine tV 1 ⟨some 21, .binOp .neq 44 (.tmp 20) (.const (.int .i64 0)) 44, _, _, _, none⟩ hS ?_
          refine tV 2 ⟨some 22, .move (.tmp 21), _, _, _, none⟩ hS ?_
          refine tV 3 ⟨some 23, .move (.tmp 5), _, _, _, some (2, false)⟩ hS ?_
          refine tV 4 ⟨some 24, .call { callee := .builtin .len, args := #[.tmp 23], argTypes := #[75] }, _, _, _, some (2, false)⟩ hS ?_
          refine tV 5 ⟨some 25, .binOp .eql 3 (.tmp 24) (.const (.int .i64 0)) 3, _, _, _, some (2, false)⟩ hS ?_
          refine tV 6 ⟨some 26, .pick (.tmp 22) (.const (.bool true)) (.tmp 25), _, _, _, none⟩ hS ?_
          refine tV 7 ⟨some 27, .move (.tmp 26), _, _, _, none⟩ hS ?_
          refine tV 8 ⟨some 28, .move (.tmp 3), _, _, _, some (7, false)⟩ hS ?_
          refine tV 9 ⟨some 29, .binOp .gtr 3 (.tmp 28) (.const (.int .i64 0)) 3, _, _, _, some (7, false)⟩ hS ?_
          refine tV 10 ⟨some 30, .move (.tmp 29), _, _, _, some (7, false)⟩ hS ?_
          refine tU 11 ⟨some 31, .move (.tmp 0), _, _, _, some (10, true)⟩ hS ?_
          refine tU 12 ⟨some 32, .move (.tmp 3), _, _, _, some (10, true)⟩ hS ?_
          refine tU 13 ⟨some 33, .binOp .sub 3 (.tmp 32) (.const (.int .i64 1)) 3, _, _, _, some (10, true)⟩ hS ?_
          refine tU 14 ⟨some 34, .indexAddr 30 (.tmp 31) (.tmp 33), _, _, _, some (10, true)⟩ hS ?_
          refine tU 15 ⟨some 35, .fieldAddr 65 (.tmp 34) 0, _, _, _, some (10, true)⟩ hS ?_
          refine tU 16 ⟨some 36, .load 9 (.tmp 35), _, _, _, some (10, true)⟩ hS ?_
          refine tU 17 ⟨some 37, .fieldAddr 65 (.tmp 4) 0, _, _, _, some (10, true)⟩ hS ?_
          refine tU 18 ⟨some 38, .load 9 (.tmp 37), _, _, _, some (10, true)⟩ hS ?_
          refine tU 19 ⟨some 39, .call { callee := .value (.func 17), args := #[.tmp 36, .tmp 38], argTypes := #[9, 9] }, _, _, _, some (10, true)⟩ hS ?_
          refine tU 20 ⟨some 40, .binOp .geq 3 (.tmp 39) (.const (.int .i64 0)) 3, _, _, _, some (10, true)⟩ hS ?_
          refine tV 21 ⟨some 41, .pick (.tmp 30) (.tmp 40) (.const (.bool false)), _, _, _, some (7, false)⟩ hS ?_
          refine tV 22 ⟨some 42, .pick (.tmp 27) (.const (.bool true)) (.tmp 41), _, _, _, none⟩ hS ?_
          refine tV 23 ⟨some 43, .move (.tmp 42), _, _, _, none⟩ hS ?_
          refine tV 24 ⟨some 44, .fieldAddr 65 (.tmp 4) 1, _, _, _, some (23, false)⟩ hS ?_
          refine tL 25 ⟨some 45, .load 36 (.tmp 44), _, _, _, some (23, false)⟩ hS ?_
          refine tV 26 ⟨some 46, .fieldAddr 65 (.tmp 4) 2, _, _, _, some (23, false)⟩ hS ?_
          refine tL 27 ⟨some 47, .load 36 (.tmp 46), _, _, _, some (23, false)⟩ hS ?_
          refine tV 28 ⟨some 48, .binOp .eql 36 (.tmp 45) (.tmp 47) 36, _, _, _, some (23, false)⟩ hS ?_
          refine tV 29 ⟨some 49, .pick (.tmp 43) (.const (.bool true)) (.tmp 48), _, _, _, none⟩ hS ?_
          refine tV 30 ⟨some 50, .move (.tmp 49), _, _, _, none⟩ hS ?_
          refine tV 31 ⟨some 51, .fieldAddr 65 (.tmp 4) 1, _, _, _, some (30, false)⟩ hS ?_
          refine tL 32 ⟨some 52, .load 36 (.tmp 51), _, _, _, some (30, false)⟩ hS ?_
          refine wpAnyH_ready (rs := [33]) (by kernel_rfl) (by simp) ?_
          refine (AllReadyH.cons (o := ⟨some 53, .call { callee := .value (.func 63), args := #[.tmp 52], argTypes := #[36] }, _, _, _, some (30, false)⟩) rfl (fun K hK => ?_) AllReadyH.nil)
          (go_simp; refine (HA.out _ _ hO).mono ?_; clear hO; rintro e w5 ⟨v, h1, h2, hO⟩; cases h1; cases h2)
          refine hK.out _ _ ⟨(FB.out _ (hO.suf sfx)).1, (FB.out _ (hO.suf sfx)).2.1, (FB.out _ (hO.suf sfx)).2.2⟩ (fun hS => ?_)
          clear hK K
          try simp only [Act.put, sb, s0, sz]
          refine tV 34 ⟨some 54, .unOp Go.UnOp.not 4 (.tmp 53), _, _, _, some (30, false)⟩ hS ?_
          refine tV 35 ⟨some 55, .pick (.tmp 50) (.const (.bool true)) (.tmp 54), _, _, _, none⟩ hS ?_
          refine tV 36 ⟨some 56, .move (.tmp 55), _, _, _, none⟩ hS ?_
          refine tV 37 ⟨some 57, .fieldAddr 65 (.tmp 4) 2, _, _, _, some (36, false)⟩ hS ?_
          refine tL 38 ⟨some 58, .load 36 (.tmp 57), _, _, _, some (36, false)⟩ hS ?_
          refine wpAnyH_ready (rs := [39]) (by kernel_rfl) (by simp) ?_
          refine (AllReadyH.cons (o := ⟨some 59, .call { callee := .value (.func 63), args := #[.tmp 58], argTypes := #[36] }, _, _, _, some (36, false)⟩) rfl (fun K hK => ?_) AllReadyH.nil)
          (go_simp; refine (HB.out _ _ hO).mono ?_; clear hO; rintro e w5 ⟨v, h1, h2, hO⟩; cases h1; cases h2)
          refine hK.out _ _ ⟨(FB.out _ (hO.suf sfx)).1, (FB.out _ (hO.suf sfx)).2.1, (FB.out _ (hO.suf sfx)).2.2⟩ (fun hS => ?_)
          clear hK K
          try simp only [Act.put, sb, s0, sz]
          refine tV 40 ⟨some 60, .unOp Go.UnOp.not 4 (.tmp 59), _, _, _, some (36, false)⟩ hS ?_
          refine tV 41 ⟨some 61, .pick (.tmp 56) (.const (.bool true)) (.tmp 60), _, _, _, none⟩ hS ?_
          refine wpAnyH_done (by kernel_rfl) ?_ _
          all_goals
            clear hS hE
            have hE := hO.tail.tail
            clear hO
            go_wp2
            refine bodyPost_ret (results_tmp rfl _ _ _) rfl ?_
            exact ⟨_, rfl, .mk false hE (iff_of_false (by decide) (fun h => by have := (Hst.out.2 h).1; rw [Hb.out] at this; cases this))⟩
        have Hb := SL.hid (show g = true by rw [Hg.out]; simp)
        clear Hg
        have hO := hE.drew
        refine wp_region_held_drew (S := (fun w' => ((Instr.loadAt 9 (.pointer (some ⟨b4, 0, none⟩))).run Tryd.prog w' = .ok (.string ⟨xp.toArray⟩) w') ∧ ((Instr.loadAt 36 (.pointer (some ⟨b4, 1, none⟩))).run Tryd.prog w' = .ok (.agg #[.bool qt, .bool qd, .string ⟨qb.toArray⟩]) w') ∧ ((Instr.loadAt 36 (.pointer (some ⟨b4, 4, none⟩))).run Tryd.prog w' = .ok (.agg #[.bool ut, .bool ud, .string ⟨ub.toArray⟩]) w'))) (by kernel_rfl) ⟨(FB.out _ (hO.suf sfx)).1, (FB.out _ (hO.suf sfx)).2.1, (FB.out _ (hO.suf sfx)).2.2⟩ (fun hS => ?_)
        refine tV 0 ⟨some 20, .move (.tmp 6), _, _, _, none⟩ hS ?_
        refine tV 1 ⟨some 21, .binOp .neq 44 (.tmp 20) (.const (.int .i64 0)) 44, _, _, _, none⟩ hS ?_
        refine tV 2 ⟨some 22, .move (.tmp 21), _, _, _, none⟩ hS ?_
        refine tV 3 ⟨some 23, .move (.tmp 5), _, _, _, some (2, false)⟩ hS ?_
        refine tV 4 ⟨some 24, .call { callee := .builtin .len, args := #[.tmp 23], argTypes := #[75] }, _, _, _, some (2, false)⟩ hS ?_
        refine tV 5 ⟨some 25, .binOp .eql 3 (.tmp 24) (.const (.int .i64 0)) 3, _, _, _, some (2, false)⟩ hS ?_
        refine tV 6 ⟨some 26, .pick (.tmp 22) (.const (.bool true)) (.tmp 25), _, _, _, none⟩ hS ?_
        refine tV 7 ⟨some 27, .move (.tmp 26), _, _, _, none⟩ hS ?_
        refine tV 8 ⟨some 28, .move (.tmp 3), _, _, _, some (7, false)⟩ hS ?_
        refine tV 9 ⟨some 29, .binOp .gtr 3 (.tmp 28) (.const (.int .i64 0)) 3, _, _, _, some (7, false)⟩ hS ?_
        refine tV 10 ⟨some 30, .move (.tmp 29), _, _, _, some (7, false)⟩ hS ?_
        refine tU 11 ⟨some 31, .move (.tmp 0), _, _, _, some (10, true)⟩ hS ?_
        refine tU 12 ⟨some 32, .move (.tmp 3), _, _, _, some (10, true)⟩ hS ?_
        refine tU 13 ⟨some 33, .binOp .sub 3 (.tmp 32) (.const (.int .i64 1)) 3, _, _, _, some (10, true)⟩ hS ?_
        refine tU 14 ⟨some 34, .indexAddr 30 (.tmp 31) (.tmp 33), _, _, _, some (10, true)⟩ hS ?_
        refine tU 15 ⟨some 35, .fieldAddr 65 (.tmp 34) 0, _, _, _, some (10, true)⟩ hS ?_
        refine tU 16 ⟨some 36, .load 9 (.tmp 35), _, _, _, some (10, true)⟩ hS ?_
        refine tU 17 ⟨some 37, .fieldAddr 65 (.tmp 4) 0, _, _, _, some (10, true)⟩ hS ?_
        refine tU 18 ⟨some 38, .load 9 (.tmp 37), _, _, _, some (10, true)⟩ hS ?_
        refine tU 19 ⟨some 39, .call { callee := .value (.func 17), args := #[.tmp 36, .tmp 38], argTypes := #[9, 9] }, _, _, _, some (10, true)⟩ hS ?_
        refine tU 20 ⟨some 40, .binOp .geq 3 (.tmp 39) (.const (.int .i64 0)) 3, _, _, _, some (10, true)⟩ hS ?_
        refine tV 21 ⟨some 41, .pick (.tmp 30) (.tmp 40) (.const (.bool false)), _, _, _, some (7, false)⟩ hS ?_
        refine tV 22 ⟨some 42, .pick (.tmp 27) (.const (.bool true)) (.tmp 41), _, _, _, none⟩ hS ?_
        refine tV 23 ⟨some 43, .move (.tmp 42), _, _, _, none⟩ hS ?_
        refine tV 24 ⟨some 44, .fieldAddr 65 (.tmp 4) 1, _, _, _, some (23, false)⟩ hS ?_
        refine tL 25 ⟨some 45, .load 36 (.tmp 44), _, _, _, some (23, false)⟩ hS ?_
        refine tV 26 ⟨some 46, .fieldAddr 65 (.tmp 4) 2, _, _, _, some (23, false)⟩ hS ?_
        refine tL 27 ⟨some 47, .load 36 (.tmp 46), _, _, _, some (23, false)⟩ hS ?_
        refine tV 28 ⟨some 48, .binOp .eql 36 (.tmp 45) (.tmp 47) 36, _, _, _, some (23, false)⟩ hS ?_
        refine tV 29 ⟨some 49, .pick (.tmp 43) (.const (.bool true)) (.tmp 48), _, _, _, none⟩ hS ?_
        refine tV 30 ⟨some 50, .move (.tmp 49), _, _, _, none⟩ hS ?_
        refine tV 31 ⟨some 51, .fieldAddr 65 (.tmp 4) 1, _, _, _, some (30, false)⟩ hS ?_
        refine tL 32 ⟨some 52, .load 36 (.tmp 51), _, _, _, some (30, false)⟩ hS ?_
        refine wpAnyH_ready (rs := [33]) (by kernel_rfl) (by simp) ?_
        refine (AllReadyH.cons (o := ⟨some 53, .call { callee := .value (.func 63), args := #[.tmp 52], argTypes := #[36] }, _, _, _, some (30, false)⟩) rfl (fun K hK => ?_) AllReadyH.nil)
        (go_simp; refine (HA.out _ _ hO).mono ?_; clear hO; rintro e w5 ⟨v, h1, h2, hO⟩; cases h1; cases h2)
        refine hK.out _ _ ⟨(FB.out _ (hO.suf sfx)).1, (FB.out _ (hO.suf sfx)).2.1, (FB.out _ (hO.suf sfx)).2.2⟩ (fun hS => ?_)
        clear hK K
        try simp only [Act.put, sb, s0, sz]
        refine tV 34 ⟨some 54, .unOp Go.UnOp.not 4 (.tmp 53), _, _, _, some (30, false)⟩ hS ?_
        refine tV 35 ⟨some 55, .pick (.tmp 50) (.const (.bool true)) (.tmp 54), _, _, _, none⟩ hS ?_
        refine tV 36 ⟨some 56, .move (.tmp 55), _, _, _, none⟩ hS ?_
        refine tV 37 ⟨some 57, .fieldAddr 65 (.tmp 4) 2, _, _, _, some (36, false)⟩ hS ?_
        refine tL 38 ⟨some 58, .load 36 (.tmp 57), _, _, _, some (36, false)⟩ hS ?_
        refine wpAnyH_ready (rs := [39]) (by kernel_rfl) (by simp) ?_
        refine (AllReadyH.cons (o := ⟨some 59, .call { callee := .value (.func 63), args := #[.tmp 58], argTypes := #[36] }, _, _, _, some (36, false)⟩) rfl (fun K hK => ?_) AllReadyH.nil)
        (go_simp; refine (HB.out _ _ hO).mono ?_; clear hO; rintro e w5 ⟨v, h1, h2, hO⟩; cases h1; cases h2)
        refine hK.out _ _ ⟨(FB.out _ (hO.suf sfx)).1, (FB.out _ (hO.suf sfx)).2.1, (FB.out _ (hO.suf sfx)).2.2⟩ (fun hS => ?_)
        clear hK K
        try simp only [Act.put, sb, s0, sz]
        refine tV 40 ⟨some 60, .unOp Go.UnOp.not 4 (.tmp 59), _, _, _, some (36, false)⟩ hS ?_
        refine tV 41 ⟨some 61, .pick (.tmp 56) (.const (.bool true)) (.tmp 60), _, _, _, none⟩ hS ?_
        refine wpAnyH_done (by kernel_rfl) ?_ _
        all_goals
          clear hS hE
          have hE := hO.tail.tail
          clear hO
          go_wp2
          go_roundw
          case rel => exact ⟨1, hlt, by first | rfl | simp, Hst.out.1.2 ⟨Hb.out, fun y hy => by simp at hy⟩, hE⟩
          case measure => simp [intOf] <;> omega
      | succ j =>
        have hjl : j < es.length := by omega
        have f1 := SL.hid (show ∀ w, Ent l w → _ from fun w h => load_dc (hk w h) hjl)
        have Hla := SL.hid (last_take hlt)
        have hyl := Hp.out es[j] (List.getElem_mem hjl)
        generalize es[j] = y at *
        have HO2 := SL.hid (fun (L : List HProp) (w : World) (h : Ent L w) => HO.out L w y.path hyl h)
        have hw1 : IntKind.i64.wrap (j : Int) = j := wrap_id (by omega)
        have h0j : (0 : Int) < (j : Int) + 1 := by omega
        have h1j : (0 : Int) ≤ (j : Int) + 1 := by omega
        have h2j : (j : Int) + 1 < (es.length : Int) := by omega
        rcases ord_cases y.path xp with ⟨ho, h1⟩ | ⟨ho, h1, h2⟩ | ⟨ho, h1, h2⟩
        · have Hls := SL.hid h1
          rw [ho] at HO2
          clear ho h1 hyl
          cases eq
          case' true =>
            have Hb := SL.hid (show g = false by rw [Hg.out]; simp)
            have hO := hE.drew
            refine wp_region_held_drew (S := (fun w' => ((Instr.loadAt 9 (.pointer (some ⟨b4, 0, none⟩))).run Tryd.prog w' = .ok (.string ⟨xp.toArray⟩) w') ∧ ((Instr.loadAt 36 (.pointer (some ⟨b4, 1, none⟩))).run Tryd.prog w' = .ok (.agg #[.bool qt, .bool qd, .string ⟨qb.toArray⟩]) w') ∧ ((Instr.loadAt 36 (.pointer (some ⟨b4, 4, none⟩))).run Tryd.prog w' = .ok (.agg #[.bool ut, .bool ud, .string ⟨ub.toArray⟩]) w') ∧ ((Instr.loadAt 9 (.pointer (some ⟨b, off + j * 7, none⟩))).run Tryd.prog w' = .ok (.string ⟨y.path.toArray⟩) w'))) (by kernel_rfl) ⟨(FB.out _ (hO.suf sfx)).1, (FB.out _ (hO.suf sfx)).2.1, (FB.out _ (hO.suf sfx)).2.2, (f1.out _ (hO.suf sfx)).2.1⟩ (fun hS => ?_)
            refine tV 0 ⟨some 20, .move (.tmp 6), _, _, _, none⟩ hS ?_
            refine tV 1 ⟨some 21, .binOp .neq 44 (.tmp 20) (.const (.int .i64 0)) 44, _, _, _, none⟩ hS ?_
            refine tV 2 ⟨some 22, .move (.tmp 21), _, _, _, none⟩ hS ?_
            refine tV 3 ⟨some 23, .move (.tmp 5), _, _, _, some (2, false)⟩ hS ?_
            refine tV 4 ⟨some 24, .call { callee := .builtin .len, args := #[.tmp 23], argTypes := #[75] }, _, _, _, some (2, false)⟩ hS ?_
            refine tV 5 ⟨some 25, .binOp .eql 3 (.tmp 24) (.const (.int .i64 0)) 3, _, _, _, some (2, false)⟩ hS ?_
            refine tV 6 ⟨some 26, .pick (.tmp 22) (.const (.bool true)) (.tmp 25), _, _, _, none⟩ hS ?_
            refine tV 7 ⟨some 27, .move (.tmp 26), _, _, _, none⟩ hS ?_
            refine tV 8 ⟨some 28, .move (.tmp 3), _, _, _, some (7, false)⟩ hS ?_
            refine tV 9 ⟨some 29, .binOp .gtr 3 (.tmp 28) (.const (.int .i64 0)) 3, _, _, _, some (7, false)⟩ hS ?_
            refine tV 10 ⟨some 30, .move (.tmp 29), _, _, _, some (7, false)⟩ hS ?_
            refine tV 11 ⟨some 31, .move (.tmp 0), _, _, _, some (10, true)⟩ hS ?_
            refine tV 12 ⟨some 32, .move (.tmp 3), _, _, _, some (10, true)⟩ hS ?_
            refine tV 13 ⟨some 33, .binOp .sub 3 (.tmp 32) (.const (.int .i64 1)) 3, _, _, _, some (10, true)⟩ hS ?_
            refine tV 14 ⟨some 34, .indexAddr 30 (.tmp 31) (.tmp 33), _, _, _, some (10, true)⟩ hS ?_
            refine tV 15 ⟨some 35, .fieldAddr 65 (.tmp 34) 0, _, _, _, some (10, true)⟩ hS ?_
            refine tL 16 ⟨some 36, .load 9 (.tmp 35), _, _, _, some (10, true)⟩ hS ?_
            refine tV 17 ⟨some 37, .fieldAddr 65 (.tmp 4) 0, _, _, _, some (10, true)⟩ hS ?_
            refine tL 18 ⟨some 38, .load 9 (.tmp 37), _, _, _, some (10, true)⟩ hS ?_
            refine wpAnyH_ready (rs := [19]) (by kernel_rfl) (by simp) ?_
            refine (AllReadyH.cons (o := ⟨some 39, .call { callee := .value (.func 17), args := #[.tmp 36, .tmp 38], argTypes := #[9, 9] }, _, _, _, some (10, true)⟩) rfl (fun K hK => ?_) AllReadyH.nil)
            (go_simp; refine (HO2.out _ _ hO).mono ?_; clear hO; rintro e w5 ⟨v, h1, h2, hO⟩; cases h1; cases h2)
            refine hK.out _ _ ⟨(FB.out _ (hO.suf sfx)).1, (FB.out _ (hO.suf sfx)).2.1, (FB.out _ (hO.suf sfx)).2.2, (f1.out _ (hO.suf sfx)).2.1⟩ (fun hS => ?_)
            clear hK K
            try simp only [Act.put, sb, s0, sz]
            refine tV 20 ⟨some 40, .binOp .geq 3 (.tmp 39) (.const (.int .i64 0)) 3, _, _, _, some (10, true)⟩ hS ?_
            refine tV 21 ⟨some 41, .pick (.tmp 30) (.tmp 40) (.const (.bool false)), _, _, _, some (7, false)⟩ hS ?_
            refine tV 22 ⟨some 42, .pick (.tmp 27) (.const (.bool true)) (.tmp 41), _, _, _, none⟩ hS ?_
            refine tV 23 ⟨some 43, .move (.tmp 42), _, _, _, none⟩ hS ?_
            refine tV 24 ⟨some 44, .fieldAddr 65 (.tmp 4) 1, _, _, _, some (23, false)⟩ hS ?_
            refine tL 25 ⟨some 45, .load 36 (.tmp 44), _, _, _, some (23, false)⟩ hS ?_
            refine tV 26 ⟨some 46, .fieldAddr 65 (.tmp 4) 2, _, _, _, some (23, false)⟩ hS ?_
            refine tL 27 ⟨some 47, .load 36 (.tmp 46), _, _, _, some (23, false)⟩ hS ?_
            refine tV 28 ⟨some 48, .binOp .eql 36 (.tmp 45) (.tmp 47) 36, _, _, _, some (23, false)⟩ hS ?_
            refine tV 29 ⟨some 49, .pick (.tmp 43) (.const (.bool true)) (.tmp 48), _, _, _, none⟩ hS ?_
            refine tV 30 ⟨some 50, .move (.tmp 49), _, _, _, none⟩ hS ?_
            refine tU 31 ⟨some 51, .fieldAddr 65 (.tmp 4) 1, _, _, _, some (30, false)⟩ hS ?_
            refine tU 32 ⟨some 52, .load 36 (.tmp 51), _, _, _, some (30, false)⟩ hS ?_
            refine tU 33 ⟨some 53, .call { callee := .value (.func 63), args := #[.tmp 52], argTypes := #[36] }, _, _, _, some (30, false)⟩ hS ?_
            refine tU 34 ⟨some 54, .unOp Go.UnOp.not 4 (.tmp 53), _, _, _, some (30, false)⟩ hS ?_
            refine tV 35 ⟨some 55, .pick (.tmp 50) (.const (.bool true)) (.tmp 54), _, _, _, none⟩ hS ?_
            refine tV 36 ⟨some 56, .move (.tmp 55), _, _, _, none⟩ hS ?_
            refine tU 37 ⟨some 57, .fieldAddr 65 (.tmp 4) 2, _, _, _, some (36, false)⟩ hS ?_
            refine tU 38 ⟨some 58, .load 36 (.tmp 57), _, _, _, some (36, false)⟩ hS ?_
            refine tU 39 ⟨some 59, .call { callee := .value (.func 63), args := #[.tmp 58], argTypes := #[36] }, _, _, _, some (36, false)⟩ hS ?_
            refine tU 40 ⟨some 60, .unOp Go.UnOp.not 4 (.tmp 59), _, _, _, some (36, false)⟩ hS ?_
            refine tV 41 ⟨some 61, .pick (.tmp 56) (.const (.bool true)) (.tmp 60), _, _, _, none⟩ hS ?_
            refine wpAnyH_done (by kernel_rfl) ?_ _
            all_goals
              clear hS hE
              have hE := hO.tail.tail
              clear hO
              go_wp2
              refine bodyPost_ret (results_tmp rfl _ _ _) rfl ?_
              exact ⟨_, rfl, .mk false hE (iff_of_false (by decide) (fun h => by have := (Hst.out.2 h).1; rw [Hb.out] at this; cases this))⟩
          cases m1
          case' false =>
            have Hb := SL.hid (show g = false by rw [Hg.out]; simp)
            have hO := hE.drew
            refine wp_region_held_drew (S := (fun w' => ((Instr.loadAt 9 (.pointer (some ⟨b4, 0, none⟩))).run Tryd.prog w' = .ok (.string ⟨xp.toArray⟩) w') ∧ ((Instr.loadAt 36 (.pointer (some ⟨b4, 1, none⟩))).run Tryd.prog w' = .ok (.agg #[.bool qt, .bool qd, .string ⟨qb.toArray⟩]) w') ∧ ((Instr.loadAt 36 (.pointer (some ⟨b4, 4, none⟩))).run Tryd.prog w' = .ok (.agg #[.bool ut, .bool ud, .string ⟨ub.toArray⟩]) w') ∧ ((Instr.loadAt 9 (.pointer (some ⟨b, off + j * 7, none⟩))).run Tryd.prog w' = .ok (.string ⟨y.path.toArray⟩) w'))) (by kernel_rfl) ⟨(FB.out _ (hO.suf sfx)).1, (FB.out _ (hO.suf sfx)).2.1, (FB.out _ (hO.suf sfx)).2.2, (f1.out _ (hO.suf sfx)).2.1⟩ (fun hS => ?_)
            refine tV 0 ⟨some 20, .move (.tmp 6), _, _, _, none⟩ hS ?_
            refine tV 1 ⟨some 21, .binOp .neq 44 (.tmp 20) (.const (.int .i64 0)) 44, _, _, _, none⟩ hS ?_
            refine tV 2 ⟨some 22, .move (.tmp 21), _, _, _, none⟩ hS ?_
            refine tV 3 ⟨some 23, .move (.tmp 5), _, _, _, some (2, false)⟩ hS ?_
            refine tV 4 ⟨some 24, .call { callee := .builtin .len, args := #[.tmp 23], argTypes := #[75] }, _, _, _, some (2, false)⟩ hS ?_
            refine tV 5 ⟨some 25, .binOp .eql 3 (.tmp 24) (.const (.int .i64 0)) 3, _, _, _, some (2, false)⟩ hS ?_
            refine tV 6 ⟨some 26, .pick (.tmp 22) (.const (.bool true)) (.tmp 25), _, _, _, none⟩ hS ?_
            refine tV 7 ⟨some 27, .move (.tmp 26), _, _, _, none⟩ hS ?_
            refine tV 8 ⟨some 28, .move (.tmp 3), _, _, _, some (7, false)⟩ hS ?_
            refine tV 9 ⟨some 29, .binOp .gtr 3 (.tmp 28) (.const (.int .i64 0)) 3, _, _, _, some (7, false)⟩ hS ?_
            refine tV 10 ⟨some 30, .move (.tmp 29), _, _, _, some (7, false)⟩ hS ?_
            refine tV 11 ⟨some 31, .move (.tmp 0), _, _, _, some (10, true)⟩ hS ?_
            refine tV 12 ⟨some 32, .move (.tmp 3), _, _, _, some (10, true)⟩ hS ?_
            refine tV 13 ⟨some 33, .binOp .sub 3 (.tmp 32) (.const (.int .i64 1)) 3, _, _, _, some (10, true)⟩ hS ?_
            refine tV 14 ⟨some 34, .indexAddr 30 (.tmp 31) (.tmp 33), _, _, _, some (10, true)⟩ hS ?_
            refine tV 15 ⟨some 35, .fieldAddr 65 (.tmp 34) 0, _, _, _, some (10, true)⟩ hS ?_
            refine tL 16 ⟨some 36, .load 9 (.tmp 35), _, _, _, some (10, true)⟩ hS ?_
            refine tV 17 ⟨some 37, .fieldAddr 65 (.tmp 4) 0, _, _, _, some (10, true)⟩ hS ?_
            refine tL 18 ⟨some 38, .load 9 (.tmp 37), _, _, _, some (10, true)⟩ hS ?_
            refine wpAnyH_ready (rs := [19]) (by kernel_rfl) (by simp) ?_
            refine (AllReadyH.cons (o := ⟨some 39, .call { callee := .value (.func 17), args := #[.tmp 36, .tmp 38], argTypes := #[9, 9] }, _, _, _, some (10, true)⟩) rfl (fun K hK => ?_) AllReadyH.nil)
            (go_simp; refine (HO2.out _ _ hO).mono ?_; clear hO; rintro e w5 ⟨v, h1, h2, hO⟩; cases h1; cases h2)
            refine hK.out _ _ ⟨(FB.out _ (hO.suf sfx)).1, (FB.out _ (hO.suf sfx)).2.1, (FB.out _ (hO.suf sfx)).2.2, (f1.out _ (hO.suf sfx)).2.1⟩ (fun hS => ?_)
            clear hK K
            try simp only [Act.put, sb, s0, sz]
            refine tV 20 ⟨some 40, .binOp .geq 3 (.tmp 39) (.const (.int .i64 0)) 3, _, _, _, some (10, true)⟩ hS ?_
            refine tV 21 ⟨some 41, .pick (.tmp 30) (.tmp 40) (.const (.bool false)), _, _, _, some (7, false)⟩ hS ?_
            refine tV 22 ⟨some 42, .pick (.tmp 27) (.const (.bool true)) (.tmp 41), _, _, _, none⟩ hS ?_
            refine tV 23 ⟨some 43, .move (.tmp 42), _, _, _, none⟩ hS ?_
            refine tV 24 ⟨some 44, .fieldAddr 65 (.tmp 4) 1, _, _, _, some (23, false)⟩ hS ?_
            refine tL 25 ⟨some 45, .load 36 (.tmp 44), _, _, _, some (23, false)⟩ hS ?_
            refine tV 26 ⟨some 46, .fieldAddr 65 (.tmp 4) 2, _, _, _, some (23, false)⟩ hS ?_
            refine tL 27 ⟨some 47, .load 36 (.tmp 46), _, _, _, some (23, false)⟩ hS ?_
            refine tV 28 ⟨some 48, .binOp .eql 36 (.tmp 45) (.tmp 47) 36, _, _, _, some (23, false)⟩ hS ?_
            refine tV 29 ⟨some 49, .pick (.tmp 43) (.const (.bool true)) (.tmp 48), _, _, _, none⟩ hS ?_
            refine tV 30 ⟨some 50, .move (.tmp 49), _, _, _, none⟩ hS ?_
            refine tV 31 ⟨some 51, .fieldAddr 65 (.tmp 4) 1, _, _, _, some (30, false)⟩ hS ?_
            refine tL 32 ⟨some 52, .load 36 (.tmp 51), _, _, _, some (30, false)⟩ hS ?_
            refine wpAnyH_ready (rs := [33]) (by kernel_rfl) (by simp) ?_
            refine (AllReadyH.cons (o := ⟨some 53, .call { callee := .value (.func 63), args := #[.tmp 52], argTypes := #[36] }, _, _, _, some (30, false)⟩) rfl (fun K hK => ?_) AllReadyH.nil)
            (go_simp; refine (HA.out _ _ hO).mono ?_; clear hO; rintro e w5 ⟨v, h1, h2, hO⟩; cases h1; cases h2)
            refine hK.out _ _ ⟨(FB.out _ (hO.suf sfx)).1, (FB.out _ (hO.suf sfx)).2.1, (FB.out _ (hO.suf sfx)).2.2, (f1.out _ (hO.suf sfx)).2.1⟩ (fun hS => ?_)
            clear hK K
            try simp only [Act.put, sb, s0, sz]
            refine tV 34 ⟨some 54, .unOp Go.UnOp.not 4 (.tmp 53), _, _, _, some (30, false)⟩ hS ?_
            refine tV 35 ⟨some 55, .pick (.tmp 50) (.const (.bool true)) (.tmp 54), _, _, _, none⟩ hS ?_
            refine tV 36 ⟨some 56, .move (.tmp 55), _, _, _, none⟩ hS ?_
            refine tU 37 ⟨some 57, .fieldAddr 65 (.tmp 4) 2, _, _, _, some (36, false)⟩ hS ?_
            refine tU 38 ⟨some 58, .load 36 (.tmp 57), _, _, _, some (36, false)⟩ hS ?_
            refine tU 39 ⟨some 59, .call { callee := .value (.func 63), args := #[.tmp 58], argTypes := #[36] }, _, _, _, some (36, false)⟩ hS ?_
            refine tU 40 ⟨some 60, .unOp Go.UnOp.not 4 (.tmp 59), _, _, _, some (36, false)⟩ hS ?_
            refine tV 41 ⟨some 61, .pick (.tmp 56) (.const (.bool true)) (.tmp 60), _, _, _, none⟩ hS ?_
            refine wpAnyH_done (by kernel_rfl) ?_ _
            all_goals
              clear hS hE
              have hE := hO.tail.tail
              clear hO
              go_wp2
              refine bodyPost_ret (results_tmp rfl _ _ _) rfl ?_
              exact ⟨_, rfl, .mk false hE (iff_of_false (by decide) (fun h => by have := (Hst.out.2 h).1; rw [Hb.out] at this; cases this))⟩
          cases m2
          case' false =>
            have Hb := SL.hid (show g = false by rw [Hg.out]; simp)
            have hO := hE.drew
            refine wp_region_held_drew (S := (fun w' => ((Instr.loadAt 9 (.pointer (some ⟨b4, 0, none⟩))).run Tryd.prog w' = .ok (.string ⟨xp.toArray⟩) w') ∧ ((Instr.loadAt 36 (.pointer (some ⟨b4, 1, none⟩))).run Tryd.prog w' = .ok (.agg #[.bool qt, .bool qd, .string ⟨qb.toArray⟩]) w') ∧ ((Instr.loadAt 36 (.pointer (some ⟨b4, 4, none⟩))).run Tryd.prog w' = .ok (.agg #[.bool ut, .bool ud, .string ⟨ub.toArray⟩]) w') ∧ ((Instr.loadAt 9 (.pointer (some ⟨b, off + j * 7, none⟩))).run Tryd.prog w' = .ok (.string ⟨y.path.toArray⟩) w'))) (by kernel_rfl) ⟨(FB.out _ (hO.suf sfx)).1, (FB.out _ (hO.suf sfx)).2.1, (FB.out _ (hO.suf sfx)).2.2, (f1.out _ (hO.suf sfx)).2.1⟩ (fun hS => ?_)
            refine tV 0 ⟨some 20, .move (.tmp 6), _, _, _, none⟩ hS ?_
            refine tV 1 ⟨some 21, .binOp .neq 44 (.tmp 20) (.const (.int .i64 0)) 44, _, _, _, none⟩ hS ?_
            refine tV 2 ⟨some 22, .move (.tmp 21), _, _, _, none⟩ hS ?_
            refine tV 3 ⟨some 23, .move (.tmp 5), _, _, _, some (2, false)⟩ hS ?_
            refine tV 4 ⟨some 24, .call { callee := .builtin .len, args := #[.tmp 23], argTypes := #[75] }, _, _, _, some (2, false)⟩ hS ?_
            refine tV 5 ⟨some 25, .binOp .eql 3 (.tmp 24) (.const (.int .i64 0)) 3, _, _, _, some (2, false)⟩ hS ?_
            refine tV 6 ⟨some 26, .pick (.tmp 22) (.const (.bool true)) (.tmp 25), _, _, _, none⟩ hS ?_
            refine tV 7 ⟨some 27, .move (.tmp 26), _, _, _, none⟩ hS ?_
            refine tV 8 ⟨some 28, .move (.tmp 3), _, _, _, some (7, false)⟩ hS ?_
            refine tV 9 ⟨some 29, .binOp .gtr 3 (.tmp 28) (.const (.int .i64 0)) 3, _, _, _, some (7, false)⟩ hS ?_
            refine tV 10 ⟨some 30, .move (.tmp 29), _, _, _, some (7, false)⟩ hS ?_
            refine tV 11 ⟨some 31, .move (.tmp 0), _, _, _, some (10, true)⟩ hS ?_
            refine tV 12 ⟨some 32, .move (.tmp 3), _, _, _, some (10, true)⟩ hS ?_
            refine tV 13 ⟨some 33, .binOp .sub 3 (.tmp 32) (.const (.int .i64 1)) 3, _, _, _, some (10, true)⟩ hS ?_
            refine tV 14 ⟨some 34, .indexAddr 30 (.tmp 31) (.tmp 33), _, _, _, some (10, true)⟩ hS ?_
            refine tV 15 ⟨some 35, .fieldAddr 65 (.tmp 34) 0, _, _, _, some (10, true)⟩ hS ?_
            refine tL 16 ⟨some 36, .load 9 (.tmp 35), _, _, _, some (10, true)⟩ hS ?_
            refine tV 17 ⟨some 37, .fieldAddr 65 (.tmp 4) 0, _, _, _, some (10, true)⟩ hS ?_
            refine tL 18 ⟨some 38, .load 9 (.tmp 37), _, _, _, some (10, true)⟩ hS ?_
            refine wpAnyH_ready (rs := [19]) (by kernel_rfl) (by simp) ?_
            refine (AllReadyH.cons (o := ⟨some 39, .call { callee := .value (.func 17), args := #[.tmp 36, .tmp 38], argTypes := #[9, 9] }, _, _, _, some (10, true)⟩) rfl (fun K hK => ?_) AllReadyH.nil)
            (go_simp; refine (HO2.out _ _ hO).mono ?_; clear hO; rintro e w5 ⟨v, h1, h2, hO⟩; cases h1; cases h2)
            refine hK.out _ _ ⟨(FB.out _ (hO.suf sfx)).1, (FB.out _ (hO.suf sfx)).2.1, (FB.out _ (hO.suf sfx)).2.2, (f1.out _ (hO.suf sfx)).2.1⟩ (fun hS => ?_)
            clear hK K
            try simp only [Act.put, sb, s0, sz]
            refine tV 20 ⟨some 40, .binOp .geq 3 (.tmp 39) (.const (.int .i64 0)) 3, _, _, _, some (10, true)⟩ hS ?_
            refine tV 21 ⟨some 41, .pick (.tmp 30) (.tmp 40) (.const (.bool false)), _, _, _, some (7, false)⟩ hS ?_
            refine tV 22 ⟨some 42, .pick (.tmp 27) (.const (.bool true)) (.tmp 41), _, _, _, none⟩ hS ?_
            refine tV 23 ⟨some 43, .move (.tmp 42), _, _, _, none⟩ hS ?_
            refine tV 24 ⟨some 44, .fieldAddr 65 (.tmp 4) 1, _, _, _, some (23, false)⟩ hS ?_
            refine tL 25 ⟨some 45, .load 36 (.tmp 44), _, _, _, some (23, false)⟩ hS ?_
            refine tV 26 ⟨some 46, .fieldAddr 65 (.tmp 4) 2, _, _, _, some (23, false)⟩ hS ?_
            refine tL 27 ⟨some 47, .load 36 (.tmp 46), _, _, _, some (23, false)⟩ hS ?_
            refine tV 28 ⟨some 48, .binOp .eql 36 (.tmp 45) (.tmp 47) 36, _, _, _, some (23, false)⟩ hS ?_
            refine tV 29 ⟨some 49, .pick (.tmp 43) (.const (.bool true)) (.tmp 48), _, _, _, none⟩ hS ?_
            refine tV 30 ⟨some 50, .move (.tmp 49), _, _, _, none⟩ hS ?_
            refine tV 31 ⟨some 51, .fieldAddr 65 (.tmp 4) 1, _, _, _, some (30, false)⟩ hS ?_
            refine tL 32 ⟨some 52, .load 36 (.tmp 51), _, _, _, some (30, false)⟩ hS ?_
            refine wpAnyH_ready (rs := [33]) (by kernel_rfl) (by simp) ?_
            refine (AllReadyH.cons (o := ⟨some 53, .call { callee := .value (.func 63), args := #[.tmp 52], argTypes := #[36] }, _, _, _, some (30, false)⟩) rfl (fun K hK => ?_) AllReadyH.nil)
            (go_simp; refine (HA.out _ _ hO).mono ?_; clear hO; rintro e w5 ⟨v, h1, h2, hO⟩; cases h1; cases h2)
            refine hK.out _ _ ⟨(FB.out _ (hO.suf sfx)).1, (FB.out _ (hO.suf sfx)).2.1, (FB.out _ (hO.suf sfx)).2.2, (f1.out _ (hO.suf sfx)).2.1⟩ (fun hS => ?_)
            clear hK K
            try simp only [Act.put, sb, s0, sz]
            refine tV 34 ⟨some 54, .unOp Go.UnOp.not 4 (.tmp 53), _, _, _, some (30, false)⟩ hS ?_
            refine tV 35 ⟨some 55, .pick (.tmp 50) (.const (.bool true)) (.tmp 54), _, _, _, none⟩ hS ?_
            refine tV 36 ⟨some 56, .move (.tmp 55), _, _, _, none⟩ hS ?_
            refine tV 37 ⟨some 57, .fieldAddr 65 (.tmp 4) 2, _, _, _, some (36, false)⟩ hS ?_
            refine tL 38 ⟨some 58, .load 36 (.tmp 57), _, _, _, some (36, false)⟩ hS ?_
            refine wpAnyH_ready (rs := [39]) (by kernel_rfl) (by simp) ?_
            refine (AllReadyH.cons (o := ⟨some 59, .call { callee := .value (.func 63), args := #[.tmp 58], argTypes := #[36] }, _, _, _, some (36, false)⟩) rfl (fun K hK => ?_) AllReadyH.nil)
            (go_simp; refine (HB.out _ _ hO).mono ?_; clear hO; rintro e w5 ⟨v, h1, h2, hO⟩; cases h1; cases h2)
            refine hK.out _ _ ⟨(FB.out _ (hO.suf sfx)).1, (FB.out _ (hO.suf sfx)).2.1, (FB.out _ (hO.suf sfx)).2.2, (f1.out _ (hO.suf sfx)).2.1⟩ (fun hS => ?_)
            clear hK K
            try simp only [Act.put, sb, s0, sz]
            refine tV 40 ⟨some 60, .unOp Go.UnOp.not 4 (.tmp 59), _, _, _, some (36, false)⟩ hS ?_
            refine tV 41 ⟨some 61, .pick (.tmp 56) (.const (.bool true)) (.tmp 60), _, _, _, none⟩ hS ?_
            refine wpAnyH_done (by kernel_rfl) ?_ _
            all_goals
              clear hS hE
              have hE := hO.tail.tail
              clear hO
              go_wp2
              refine bodyPost_ret (results_tmp rfl _ _ _) rfl ?_
              exact ⟨_, rfl, .mk false hE (iff_of_false (by decide) (fun h => by have := (Hst.out.2 h).1; rw [Hb.out] at this; cases this))⟩
          have Hb := SL.hid (show g = true by rw [Hg.out]; simp)
          clear Hg
          have hO := hE.drew
          refine wp_region_held_drew (S := (fun w' => ((Instr.loadAt 9 (.pointer (some ⟨b4, 0, none⟩))).run Tryd.prog w' = .ok (.string ⟨xp.toArray⟩) w') ∧ ((Instr.loadAt 36 (.pointer (some ⟨b4, 1, none⟩))).run Tryd.prog w' = .ok (.agg #[.bool qt, .bool qd, .string ⟨qb.toArray⟩]) w') ∧ ((Instr.loadAt 36 (.pointer (some ⟨b4, 4, none⟩))).run Tryd.prog w' = .ok (.agg #[.bool ut, .bool ud, .string ⟨ub.toArray⟩]) w') ∧ ((Instr.loadAt 9 (.pointer (some ⟨b, off + j * 7, none⟩))).run Tryd.prog w' = .ok (.string ⟨y.path.toArray⟩) w'))) (by kernel_rfl) ⟨(FB.out _ (hO.suf sfx)).1, (FB.out _ (hO.suf sfx)).2.1, (FB.out _ (hO.suf sfx)).2.2, (f1.out _ (hO.suf sfx)).2.1⟩ (fun hS => ?_)
          refine tV 0 ⟨some 20, .move (.tmp 6), _, _, _, none⟩ hS ?_
          refine tV 1 ⟨some 21, .binOp .neq 44 (.tmp 20) (.const (.int .i64 0)) 44, _, _, _, none⟩ hS ?_
          refine tV 2 ⟨some 22, .move (.tmp 21), _, _, _, none⟩ hS ?_
          refine tV 3 ⟨some 23, .move (.tmp 5), _, _, _, some (2, false)⟩ hS ?_
          refine tV 4 ⟨some 24, .call { callee := .builtin .len, args := #[.tmp 23], argTypes := #[75] }, _, _, _, some (2, false)⟩ hS ?_
          refine tV 5 ⟨some 25, .binOp .eql 3 (.tmp 24) (.const (.int .i64 0)) 3, _, _, _, some (2, false)⟩ hS ?_
          refine tV 6 ⟨some 26, .pick (.tmp 22) (.const (.bool true)) (.tmp 25), _, _, _, none⟩ hS ?_
          refine tV 7 ⟨some 27, .move (.tmp 26), _, _, _, none⟩ hS ?_
          refine tV 8 ⟨some 28, .move (.tmp 3), _, _, _, some (7, false)⟩ hS ?_
          refine tV 9 ⟨some 29, .binOp .gtr 3 (.tmp 28) (.const (.int .i64 0)) 3, _, _, _, some (7, false)⟩ hS ?_
          refine tV 10 ⟨some 30, .move (.tmp 29), _, _, _, some (7, false)⟩ hS ?_
          refine tV 11 ⟨some 31, .move (.tmp 0), _, _, _, some (10, true)⟩ hS ?_
          refine tV 12 ⟨some 32, .move (.tmp 3), _, _, _, some (10, true)⟩ hS ?_
          refine tV 13 ⟨some 33, .binOp .sub 3 (.tmp 32) (.const (.int .i64 1)) 3, _, _, _, some (10, true)⟩ hS ?_
          refine tV 14 ⟨some 34, .indexAddr 30 (.tmp 31) (.tmp 33), _, _, _, some (10, true)⟩ hS ?_
          refine tV 15 ⟨some 35, .fieldAddr 65 (.tmp 34) 0, _, _, _, some (10, true)⟩ hS ?_
          refine tL 16 ⟨some 36, .load 9 (.tmp 35), _, _, _, some (10, true)⟩ hS ?_
          refine tV 17 ⟨some 37, .fieldAddr 65 (.tmp 4) 0, _, _, _, some (10, true)⟩ hS ?_
          refine tL 18 ⟨some 38, .load 9 (.tmp 37), _, _, _, some (10, true)⟩ hS ?_
          refine wpAnyH_ready (rs := [19]) (by kernel_rfl) (by simp) ?_
          refine (AllReadyH.cons (o := ⟨some 39, .call { callee := .value (.func 17), args := #[.tmp 36, .tmp 38], argTypes := #[9, 9] }, _, _, _, some (10, true)⟩) rfl (fun K hK => ?_) AllReadyH.nil)
          (go_simp; refine (HO2.out _ _ hO).mono ?_; clear hO; rintro e w5 ⟨v, h1, h2, hO⟩; cases h1; cases h2)
          refine hK.out _ _ ⟨(FB.out _ (hO.suf sfx)).1, (FB.out _ (hO.suf sfx)).2.1, (FB.out _ (hO.suf sfx)).2.2, (f1.out _ (hO.suf sfx)).2.1⟩ (fun hS => ?_)
          clear hK K
          try simp only [Act.put, sb, s0, sz]
          refine tV 20 ⟨some 40, .binOp .geq 3 (.tmp 39) (.const (.int .i64 0)) 3, _, _, _, some (10, true)⟩ hS ?_
          refine tV 21 ⟨some 41, .pick (.tmp 30) (.tmp 40) (.const (.bool false)), _, _, _, some (7, false)⟩ hS ?_
          refine tV 22 ⟨some 42, .pick (.tmp 27) (.const (.bool true)) (.tmp 41), _, _, _, none⟩ hS ?_
          refine tV 23 ⟨some 43, .move (.tmp 42), _, _, _, none⟩ hS ?_
          refine tV 24 ⟨some 44, .fieldAddr 65 (.tmp 4) 1, _, _, _, some (23, false)⟩ hS ?_
          refine tL 25 ⟨some 45, .load 36 (.tmp 44), _, _, _, some (23, false)⟩ hS ?_
          refine tV 26 ⟨some 46, .fieldAddr 65 (.tmp 4) 2, _, _, _, some (23, false)⟩ hS ?_
          refine tL 27 ⟨some 47, .load 36 (.tmp 46), _, _, _, some (23, false)⟩ hS ?_
          refine tV 28 ⟨some 48, .binOp .eql 36 (.tmp 45) (.tmp 47) 36, _, _, _, some (23, false)⟩ hS ?_
          refine tV 29 ⟨some 49, .pick (.tmp 43) (.const (.bool true)) (.tmp 48), _, _, _, none⟩ hS ?_
          refine tV 30 ⟨some 50, .move (.tmp 49), _, _, _, none⟩ hS ?_
          refine tV 31 ⟨some 51, .fieldAddr 65 (.tmp 4) 1, _, _, _, some (30, false)⟩ hS ?_
          refine tL 32 ⟨some 52, .load 36 (.tmp 51), _, _, _, some (30, false)⟩ hS ?_
          refine wpAnyH_ready (rs := [33]) (by kernel_rfl) (by simp) ?_
          refine (AllReadyH.cons (o := ⟨some 53, .call { callee := .value (.func 63), args := #[.tmp 52], argTypes := #[36] }, _, _, _, some (30, false)⟩) rfl (fun K hK => ?_) AllReadyH.nil)
          (go_simp; refine (HA.out _ _ hO).mono ?_; clear hO; rintro e w5 ⟨v, h1, h2, hO⟩; cases h1; cases h2)
          refine hK.out _ _ ⟨(FB.out _ (hO.suf sfx)).1, (FB.out _ (hO.suf sfx)).2.1, (FB.out _ (hO.suf sfx)).2.2, (f1.out _ (hO.suf sfx)).2.1⟩ (fun hS => ?_)
          clear hK K
          try simp only [Act.put, sb, s0, sz]
          refine tV 34 ⟨some 54, .unOp Go.UnOp.not 4 (.tmp 53), _, _, _, some (30, false)⟩ hS ?_
          refine tV 35 ⟨some 55, .pick (.tmp 50) (.const (.bool true)) (.tmp 54), _, _, _, none⟩ hS ?_
          refine tV 36 ⟨some 56, .move (.tmp 55), _, _, _, none⟩ hS ?_
          refine tV 37 ⟨some 57, .fieldAddr 65 (.tmp 4) 2, _, _, _, some (36, false)⟩ hS ?_
          refine tL 38 ⟨some 58, .load 36 (.tmp 57), _, _, _, some (36, false)⟩ hS ?_
          refine wpAnyH_ready (rs := [39]) (by kernel_rfl) (by simp) ?_
          refine (AllReadyH.cons (o := ⟨some 59, .call { callee := .value (.func 63), args := #[.tmp 58], argTypes := #[36] }, _, _, _, some (36, false)⟩) rfl (fun K hK => ?_) AllReadyH.nil)
          (go_simp; refine (HB.out _ _ hO).mono ?_; clear hO; rintro e w5 ⟨v, h1, h2, hO⟩; cases h1; cases h2)
          refine hK.out _ _ ⟨(FB.out _ (hO.suf sfx)).1, (FB.out _ (hO.suf sfx)).2.1, (FB.out _ (hO.suf sfx)).2.2, (f1.out _ (hO.suf sfx)).2.1⟩ (fun hS => ?_)
          clear hK K
          try simp only [Act.put, sb, s0, sz]
          refine tV 40 ⟨some 60, .unOp Go.UnOp.not 4 (.tmp 59), _, _, _, some (36, false)⟩ hS ?_
          refine tV 41 ⟨some 61, .pick (.tmp 56) (.const (.bool true)) (.tmp 60), _, _, _, none⟩ hS ?_
          refine wpAnyH_done (by kernel_rfl) ?_ _
          all_goals
            clear hS hE
            have hE := hO.tail.tail
            clear hO
            go_wp2
            go_roundw
            case rel => exact ⟨j + 1 + 1, hlt, by first | rfl | simp, Hst.out.1.2 ⟨Hb.out, fun z hz => by rw [Hla.out] at hz; cases hz; exact Hls.out⟩, hE⟩
            case measure => simp [intOf] <;> omega
        · have Hls := SL.hid h1
          rw [ho] at HO2
          clear ho h1 h2 hyl
          have hO := hE.drew
          refine wp_region_held_drew (S := (fun w' => ((Instr.loadAt 9 (.pointer (some ⟨b4, 0, none⟩))).run Tryd.prog w' = .ok (.string ⟨xp.toArray⟩) w') ∧ ((Instr.loadAt 36 (.pointer (some ⟨b4, 1, none⟩))).run Tryd.prog w' = .ok (.agg #[.bool qt, .bool qd, .string ⟨qb.toArray⟩]) w') ∧ ((Instr.loadAt 36 (.pointer (some ⟨b4, 4, none⟩))).run Tryd.prog w' = .ok (.agg #[.bool ut, .bool ud, .string ⟨ub.toArray⟩]) w') ∧ ((Instr.loadAt 9 (.pointer (some ⟨b, off + j * 7, none⟩))).run Tryd.prog w' = .ok (.string ⟨y.path.toArray⟩) w'))) (by kernel_rfl) ⟨(FB.out _ (hO.suf sfx)).1, (FB.out _ (hO.suf sfx)).2.1, (FB.out _ (hO.suf sfx)).2.2, (f1.out _ (hO.suf sfx)).2.1⟩ (fun hS => ?_)
          refine tV 0 ⟨some 20, .move (.tmp 6), _, _, _, none⟩ hS ?_
          refine tV 1 ⟨some 21, .binOp .neq 44 (.tmp 20) (.const (.int .i64 0)) 44, _, _, _, none⟩ hS ?_
          refine tV 2 ⟨some 22, .move (.tmp 21), _, _, _, none⟩ hS ?_
          refine tV 3 ⟨some 23, .move (.tmp 5), _, _, _, some (2, false)⟩ hS ?_
          refine tV 4 ⟨some 24, .call { callee := .builtin .len, args := #[.tmp 23], argTypes := #[75] }, _, _, _, some (2, false)⟩ hS ?_
          refine tV 5 ⟨some 25, .binOp .eql 3 (.tmp 24) (.const (.int .i64 0)) 3, _, _, _, some (2, false)⟩ hS ?_
          refine tV 6 ⟨some 26, .pick (.tmp 22) (.const (.bool true)) (.tmp 25), _, _, _, none⟩ hS ?_
          refine tV 7 ⟨some 27, .move (.tmp 26), _, _, _, none⟩ hS ?_
          refine tV 8 ⟨some 28, .move (.tmp 3), _, _, _, some (7, false)⟩ hS ?_
          refine tV 9 ⟨some 29, .binOp .gtr 3 (.tmp 28) (.const (.int .i64 0)) 3, _, _, _, some (7, false)⟩ hS ?_
          refine tV 10 ⟨some 30, .move (.tmp 29), _, _, _, some (7, false)⟩ hS ?_
          refine tV 11 ⟨some 31, .move (.tmp 0), _, _, _, some (10, true)⟩ hS ?_
          refine tV 12 ⟨some 32, .move (.tmp 3), _, _, _, some (10, true)⟩ hS ?_
          refine tV 13 ⟨some 33, .binOp .sub 3 (.tmp 32) (.const (.int .i64 1)) 3, _, _, _, some (10, true)⟩ hS ?_
          refine tV 14 ⟨some 34, .indexAddr 30 (.tmp 31) (.tmp 33), _, _, _, some (10, true)⟩ hS ?_
          refine tV 15 ⟨some 35, .fieldAddr 65 (.tmp 34) 0, _, _, _, some (10, true)⟩ hS ?_
          refine tL 16 ⟨some 36, .load 9 (.tmp 35), _, _, _, some (10, true)⟩ hS ?_
          refine tV 17 ⟨some 37, .fieldAddr 65 (.tmp 4) 0, _, _, _, some (10, true)⟩ hS ?_
          refine tL 18 ⟨some 38, .load 9 (.tmp 37), _, _, _, some (10, true)⟩ hS ?_
          refine wpAnyH_ready (rs := [19]) (by kernel_rfl) (by simp) ?_
          refine (AllReadyH.cons (o := ⟨some 39, .call { callee := .value (.func 17), args := #[.tmp 36, .tmp 38], argTypes := #[9, 9] }, _, _, _, some (10, true)⟩) rfl (fun K hK => ?_) AllReadyH.nil)
          (go_simp; refine (HO2.out _ _ hO).mono ?_; clear hO; rintro e w5 ⟨v, h1, h2, hO⟩; cases h1; cases h2)
          refine hK.out _ _ ⟨(FB.out _ (hO.suf sfx)).1, (FB.out _ (hO.suf sfx)).2.1, (FB.out _ (hO.suf sfx)).2.2, (f1.out _ (hO.suf sfx)).2.1⟩ (fun hS => ?_)
          clear hK K
          try simp only [Act.put, sb, s0, sz]
          refine tV 20 ⟨some 40, .binOp .geq 3 (.tmp 39) (.const (.int .i64 0)) 3, _, _, _, some (10, true)⟩ hS ?_
          refine tV 21 ⟨some 41, .pick (.tmp 30) (.tmp 40) (.const (.bool false)), _, _, _, some (7, false)⟩ hS ?_
          refine tV 22 ⟨some 42, .pick (.tmp 27) (.const (.bool true)) (.tmp 41), _, _, _, none⟩ hS ?_
          refine tV 23 ⟨some 43, .move (.tmp 42), _, _, _, none⟩ hS ?_
          refine tU 24 ⟨some 44, .fieldAddr 65 (.tmp 4) 1, _, _, _, some (23, false)⟩ hS ?_
          refine tU 25 ⟨some 45, .load 36 (.tmp 44), _, _, _, some (23, false)⟩ hS ?_
          refine tU 26 ⟨some 46, .fieldAddr 65 (.tmp 4) 2, _, _, _, some (23, false)⟩ hS ?_
          refine tU 27 ⟨some 47, .load 36 (.tmp 46), _, _, _, some (23, false)⟩ hS ?_
          refine tU 28 ⟨some 48, .binOp .eql 36 (.tmp 45) (.tmp 47) 36, _, _, _, some (23, false)⟩ hS ?_
          refine tV 29 ⟨some 49, .pick (.tmp 43) (.const (.bool true)) (.tmp 48), _, _, _, none⟩ hS ?_
          refine tV 30 ⟨some 50, .move (.tmp 49), _, _, _, none⟩ hS ?_
          refine tU 31 ⟨some 51, .fieldAddr 65 (.tmp 4) 1, _, _, _, some (30, false)⟩ hS ?_
          refine tU 32 ⟨some 52, .load 36 (.tmp 51), _, _, _, some (30, false)⟩ hS ?_
          refine tU 33 ⟨some 53, .call { callee := .value (.func 63), args := #[.tmp 52], argTypes := #[36] }, _, _, _, some (30, false)⟩ hS ?_
          refine tU 34 ⟨some 54, .unOp Go.UnOp.not 4 (.tmp 53), _, _, _, some (30, false)⟩ hS ?_
          refine tV 35 ⟨some 55, .pick (.tmp 50) (.const (.bool true)) (.tmp 54), _, _, _, none⟩ hS ?_
          refine tV 36 ⟨some 56, .move (.tmp 55), _, _, _, none⟩ hS ?_
          refine tU 37 ⟨some 57, .fieldAddr 65 (.tmp 4) 2, _, _, _, some (36, false)⟩ hS ?_
          refine tU 38 ⟨some 58, .load 36 (.tmp 57), _, _, _, some (36, false)⟩ hS ?_
          refine tU 39 ⟨some 59, .call { callee := .value (.func 63), args := #[.tmp 58], argTypes := #[36] }, _, _, _, some (36, false)⟩ hS ?_
          refine tU 40 ⟨some 60, .unOp Go.UnOp.not 4 (.tmp 59), _, _, _, some (36, false)⟩ hS ?_
          refine tV 41 ⟨some 61, .pick (.tmp 56) (.const (.bool true)) (.tmp 60), _, _, _, none⟩ hS ?_
          refine wpAnyH_done (by kernel_rfl) ?_ _
          all_goals
            clear hS hE
            have hE := hO.tail.tail
            clear hO
            go_wp2
            refine bodyPost_ret (results_tmp rfl _ _ _) rfl ?_
            exact ⟨_, rfl, .mk false hE (iff_of_false (by decide) (fun h => by have := (Hst.out.2 h).2 _ Hla.out; rw [Hls.out] at this; cases this))⟩
        · have Hls := SL.hid h1
          rw [ho] at HO2
          clear ho h1 h2 hyl
          have hO := hE.drew
          refine wp_region_held_drew (S := (fun w' => ((Instr.loadAt 9 (.pointer (some ⟨b4, 0, none⟩))).run Tryd.prog w' = .ok (.string ⟨xp.toArray⟩) w') ∧ ((Instr.loadAt 36 (.pointer (some ⟨b4, 1, none⟩))).run Tryd.prog w' = .ok (.agg #[.bool qt, .bool qd, .string ⟨qb.toArray⟩]) w') ∧ ((Instr.loadAt 36 (.pointer (some ⟨b4, 4, none⟩))).run Tryd.prog w' = .ok (.agg #[.bool ut, .bool ud, .string ⟨ub.toArray⟩]) w') ∧ ((Instr.loadAt 9 (.pointer (some ⟨b, off + j * 7, none⟩))).run Tryd.prog w' = .ok (.string ⟨y.path.toArray⟩) w'))) (by kernel_rfl) ⟨(FB.out _ (hO.suf sfx)).1, (FB.out _ (hO.suf sfx)).2.1, (FB.out _ (hO.suf sfx)).2.2, (f1.out _ (hO.suf sfx)).2.1⟩ (fun hS => ?_)
          refine tV 0 ⟨some 20, .move (.tmp 6), _, _, _, none⟩ hS ?_
          refine tV 1 ⟨some 21, .binOp .neq 44 (.tmp 20) (.const (.int .i64 0)) 44, _, _, _, none⟩ hS ?_
          refine tV 2 ⟨some 22, .move (.tmp 21), _, _, _, none⟩ hS ?_
          refine tV 3 ⟨some 23, .move (.tmp 5), _, _, _, some (2, false)⟩ hS ?_
          refine tV 4 ⟨some 24, .call { callee := .builtin .len, args := #[.tmp 23], argTypes := #[75] }, _, _, _, some (2, false)⟩ hS ?_
          refine tV 5 ⟨some 25, .binOp .eql 3 (.tmp 24) (.const (.int .i64 0)) 3, _, _, _, some (2, false)⟩ hS ?_
          refine tV 6 ⟨some 26, .pick (.tmp 22) (.const (.bool true)) (.tmp 25), _, _, _, none⟩ hS ?_
          refine tV 7 ⟨some 27, .move (.tmp 26), _, _, _, none⟩ hS ?_
          refine tV 8 ⟨some 28, .move (.tmp 3), _, _, _, some (7, false)⟩ hS ?_
          refine tV 9 ⟨some 29, .binOp .gtr 3 (.tmp 28) (.const (.int .i64 0)) 3, _, _, _, some (7, false)⟩ hS ?_
          refine tV 10 ⟨some 30, .move (.tmp 29), _, _, _, some (7, false)⟩ hS ?_
          refine tV 11 ⟨some 31, .move (.tmp 0), _, _, _, some (10, true)⟩ hS ?_
          refine tV 12 ⟨some 32, .move (.tmp 3), _, _, _, some (10, true)⟩ hS ?_
          refine tV 13 ⟨some 33, .binOp .sub 3 (.tmp 32) (.const (.int .i64 1)) 3, _, _, _, some (10, true)⟩ hS ?_
          refine tV 14 ⟨some 34, .indexAddr 30 (.tmp 31) (.tmp 33), _, _, _, some (10, true)⟩ hS ?_
          refine tV 15 ⟨some 35, .fieldAddr 65 (.tmp 34) 0, _, _, _, some (10, true)⟩ hS ?_
          refine tL 16 ⟨some 36, .load 9 (.tmp 35), _, _, _, some (10, true)⟩ hS ?_
          refine tV 17 ⟨some 37, .fieldAddr 65 (.tmp 4) 0, _, _, _, some (10, true)⟩ hS ?_
          refine tL 18 ⟨some 38, .load 9 (.tmp 37), _, _, _, some (10, true)⟩ hS ?_
          refine wpAnyH_ready (rs := [19]) (by kernel_rfl) (by simp) ?_
          refine (AllReadyH.cons (o := ⟨some 39, .call { callee := .value (.func 17), args := #[.tmp 36, .tmp 38], argTypes := #[9, 9] }, _, _, _, some (10, true)⟩) rfl (fun K hK => ?_) AllReadyH.nil)
          (go_simp; refine (HO2.out _ _ hO).mono ?_; clear hO; rintro e w5 ⟨v, h1, h2, hO⟩; cases h1; cases h2)
          refine hK.out _ _ ⟨(FB.out _ (hO.suf sfx)).1, (FB.out _ (hO.suf sfx)).2.1, (FB.out _ (hO.suf sfx)).2.2, (f1.out _ (hO.suf sfx)).2.1⟩ (fun hS => ?_)
          clear hK K
          try simp only [Act.put, sb, s0, sz]
          refine tV 20 ⟨some 40, .binOp .geq 3 (.tmp 39) (.const (.int .i64 0)) 3, _, _, _, some (10, true)⟩ hS ?_
          refine tV 21 ⟨some 41, .pick (.tmp 30) (.tmp 40) (.const (.bool false)), _, _, _, some (7, false)⟩ hS ?_
          refine tV 22 ⟨some 42, .pick (.tmp 27) (.const (.bool true)) (.tmp 41), _, _, _, none⟩ hS ?_
          refine tV 23 ⟨some 43, .move (.tmp 42), _, _, _, none⟩ hS ?_
          refine tU 24 ⟨some 44, .fieldAddr 65 (.tmp 4) 1, _, _, _, some (23, false)⟩ hS ?_
          refine tU 25 ⟨some 45, .load 36 (.tmp 44), _, _, _, some (23, false)⟩ hS ?_
          refine tU 26 ⟨some 46, .fieldAddr 65 (.tmp 4) 2, _, _, _, some (23, false)⟩ hS ?_
          refine tU 27 ⟨some 47, .load 36 (.tmp 46), _, _, _, some (23, false)⟩ hS ?_
          refine tU 28 ⟨some 48, .binOp .eql 36 (.tmp 45) (.tmp 47) 36, _, _, _, some (23, false)⟩ hS ?_
          refine tV 29 ⟨some 49, .pick (.tmp 43) (.const (.bool true)) (.tmp 48), _, _, _, none⟩ hS ?_
          refine tV 30 ⟨some 50, .move (.tmp 49), _, _, _, none⟩ hS ?_
          refine tU 31 ⟨some 51, .fieldAddr 65 (.tmp 4) 1, _, _, _, some (30, false)⟩ hS ?_
          refine tU 32 ⟨some 52, .load 36 (.tmp 51), _, _, _, some (30, false)⟩ hS ?_
          refine tU 33 ⟨some 53, .call { callee := .value (.func 63), args := #[.tmp 52], argTypes := #[36] }, _, _, _, some (30, false)⟩ hS ?_
          refine tU 34 ⟨some 54, .unOp Go.UnOp.not 4 (.tmp 53), _, _, _, some (30, false)⟩ hS ?_
          refine tV 35 ⟨some 55, .pick (.tmp 50) (.const (.bool true)) (.tmp 54), _, _, _, none⟩ hS ?_
          refine tV 36 ⟨some 56, .move (.tmp 55), _, _, _, none⟩ hS ?_
          refine tU 37 ⟨some 57, .fieldAddr 65 (.tmp 4) 2, _, _, _, some (36, false)⟩ hS ?_
          refine tU 38 ⟨some 58, .load 36 (.tmp 57), _, _, _, some (36, false)⟩ hS ?_
          refine tU 39 ⟨some 59, .call { callee := .value (.func 63), args := #[.tmp 58], argTypes := #[36] }, _, _, _, some (36, false)⟩ hS ?_
          refine tU 40 ⟨some 60, .unOp Go.UnOp.not 4 (.tmp 59), _, _, _, some (36, false)⟩ hS ?_
          refine tV 41 ⟨some 61, .pick (.tmp 56) (.const (.bool true)) (.tmp 60), _, _, _, none⟩ hS ?_
          refine wpAnyH_done (by kernel_rfl) ?_ _
          all_goals
            clear hS hE
            have hE := hO.tail.tail
            clear hO
            go_wp2
            refine bodyPost_ret (results_tmp rfl _ _ _) rfl ?_
            exact ⟨_, rfl, .mk false hE (iff_of_false (by decide) (fun h => by have := (Hst.out.2 h).2 _ Hla.out; rw [Hls.out] at this; cases this))⟩
    · obtain rfl : k = es.length := by omega
      rw [List.take_length] at hpre
      have R := SL.hid hpre
      clear hpre
      go_wp2
      refine bodyPost_ret (results_tmp rfl _ _ _) rfl ?_
      exact ⟨_, rfl, .mk true hE (iff_of_true rfl R.out)⟩
end Go.Proofs.YtcpgelpajppgdaaDoor
namespace Go.Proofs.YtcpgelpajppgdaaDoor
open Go.RowKit Go.SL

theorem kid_cell {b : Nat} {x y v : Value} {R : List HProp} {w : World} (_ : Ent (pt b (.cells #[x, y, v] 25) :: R) w) : ∀ w, Ent (pt b (.cells #[x, y, v] 25) :: R) w → (Instr.loadAt 23 (.pointer (some ⟨b, 2, none⟩))).run Tryd.prog w = .ok v w := fun _ h => run_load1 h 0 rfl (by simp [go_sem]) rfl
theorem side_field (x y : Value) (b : List UInt8) (w : World) : (Instr.field 36 (.agg #[x, y, .string ⟨b.toArray⟩]) 2).run Tryd.prog w = .ok (.string ⟨b.toArray⟩) w := by
  have ht : Tryd.prog.underlying 36 = some (.struct (Tryd.prog.fieldsOf 36)) := by kernel_rfl
  have hf : ((Tryd.prog.fieldsOf 36)[2]?).map (fun f => (f.type, f.offset)) = some (9, 2) := by kernel_rfl
  obtain ⟨f, h1, h2⟩ := Option.map_eq_some_iff.1 hf
  simp only [Prod.mk.injEq] at h2
  have hA : ∀ w, (isAgg 9).run Tryd.prog w = .ok false w := fun w => by simp [go_sem]
  have hA : ∀ w, (isAgg f.type).run Tryd.prog w = .ok false w := fun w => by rw [h2.1]; exact hA w
  simp [Instr.field, run_underlying ht, h1, part, hA, h2.2, asAgg]
theorem row_knows {ao : Option Addr} {c : Nat} {xs : List Ch} {R : List HProp} {w : World} (_ : Ent (rowCh ao c xs :: R) w) : Knows (rowCh ao c xs :: R) (reads (.slice ao xs.length c) xs.length (xs.flatMap chC)) := fun _ h => reads_row h 0 rfl
theorem wl_loads {L : List HProp} {a : Option Addr} {c : Nat} (hk : Knows L (reads (.slice a 2 c) 2 (wl.flatMap chC))) {w : World} (hE : Ent L w) : ∃ g o, a = some ⟨g, o, none⟩ ∧ ∀ w, Ent L w →
    (Instr.loadAt 65 (.pointer (some ⟨g, o, none⟩))).run Tryd.prog w = .ok (.agg #[.string ⟨#[100]⟩, .bool true, .bool true, .string ⟨#[]⟩, .bool true, .bool false, .string ⟨#[97, 98]⟩]) w ∧
    (Instr.loadAt 9 (.pointer (some ⟨g, o + 7, none⟩))).run Tryd.prog w = .ok (.string ⟨#[100, 47, 120]⟩) w ∧
    (Instr.loadAt 4 (.pointer (some ⟨g, o + 7 + 4, none⟩))).run Tryd.prog w = .ok (.bool false) w := by
  obtain ⟨g, o, rfl, _⟩ := ch_at (xs := wl) (hk _ hE) (k := 0) (by decide)
  refine ⟨g, o, rfl, fun w h => ?_⟩
  have h0 := (load_dc (xs := wl) (hk w h) (k := 0) (by decide)).1
  have h1 := (load_dc (xs := wl) (hk w h) (k := 1) (by decide)).2.1
  obtain ⟨b', o', e, hz⟩ := ch_at (xs := wl) (hk w h) (k := 1) (by decide)
  cases e
  rw [Nat.zero_mul, Nat.add_zero] at h0
  rw [Nat.one_mul] at h1
  have h2 := hz 4 (.bool false) rfl
  rw [Nat.one_mul] at h2
  exact ⟨h0, h1, atCell h2 (by simp [go_sem])⟩
theorem kid_data {L : List HProp} {a : Option Addr} {c : Nat} (hk : KidsAt L (.slice a 1 c) W2.kids) {w : World} (hE : Ent L w) : ∃ g o, a = some ⟨g, o, none⟩ ∧ ∀ w, Ent L w → (Instr.loadAt 9 (.pointer (some ⟨g, o + 1 + 1, none⟩))).run Tryd.prog w = .ok (.string ⟨#[97, 98]⟩) w := by
  obtain ⟨ao, c', vs, e, _, hl, hr, _, _⟩ := hk.open
  cases e
  obtain ⟨v, rfl⟩ : ∃ v, vs = [v] := by
    match vs, hl with
    | [v], _ => exact ⟨v, rfl⟩
  obtain ⟨g, o, rfl, _⟩ := reads_form (hr _ hE) (by decide) (by rw [kCs_len rfl]; decide)
  refine ⟨g, o, rfl, fun w h => ?_⟩
  obtain ⟨b', o', e, hz⟩ := reads_form (hr w h) (by decide) (by rw [kCs_len rfl]; decide)
  cases e
  exact atCell (hz 2 (.string ⟨#[97, 98]⟩) rfl) (by simp [go_sem])
set_option maxRecDepth 100000 in
set_option maxHeartbeats 8000000 in
attribute [-go_sem] Instr.loadAt Go.run_equalIn_agg in
theorem wakes28_any {l : List HProp} {w : World} (hE : Ent l w) : Calls Tryd.prog 9 #[] w (Ret fun v w' => v = .bool true ∧ ∃ m, Ent (m ++ l) w') := by
  have HB1 := SL.hid (fun (b : Nat) (L : List HProp) (w : World) (hE : Ent (pt b (.cells #[.string ⟨#[100]⟩, .bool true, .string ⟨#[]⟩, .string ⟨#[100, 47, 120]⟩, .bool false, .string ⟨#[97, 98]⟩] 63) :: L) w) =>
    show Calls Tryd.prog 29 #[.slice (some ⟨b, 0, none⟩) 2 2] w (Ret fun v w' => ∃ m a c, v = .tuple #[.agg #[.bool true, .string ⟨#[]⟩, .slice a 1 c], .int .i64 0] ∧ Ent (m ++ L) w' ∧ KidsAt (m ++ L) (.slice a 1 c) W1.kids) from by
      refine (Build_any (es := we1) (by decide) (fun x hx => by simp only [we1, List.mem_cons, List.not_mem_nil, or_false] at hx; rcases hx with rfl | rfl <;> exact ⟨by decide, by decide⟩) (fun w h => reads_pt h 0 rfl (off := 0) (fun j u hu => by rw [Nat.zero_add, List.getElem?_toArray]; exact hu)) hE).mono ?_
      rintro e w' ⟨v, rfl, m, kv, h, hE, hk⟩
      rw [wb1] at h hk
      obtain ⟨a, c, rfl⟩ := hk.slice
      exact ⟨_, rfl, m ++ [pt b (.cells #[.string ⟨#[100]⟩, .bool true, .string ⟨#[]⟩, .string ⟨#[100, 47, 120]⟩, .bool false, .string ⟨#[97, 98]⟩] 63)], a, c, h, by rw [List.append_assoc]; exact hE, by rw [List.append_assoc]; exact hk⟩)
  have HB2 := SL.hid (fun (b : Nat) (L : List HProp) (w : World) (hE : Ent (pt b (.cells #[.string ⟨#[100]⟩, .bool false, .string ⟨#[97, 98]⟩] 63) :: L) w) =>
    show Calls Tryd.prog 29 #[.slice (some ⟨b, 0, none⟩) 1 1] w (Ret fun v w' => ∃ m a c, v = .tuple #[.agg #[.bool true, .string ⟨#[]⟩, .slice a 1 c], .int .i64 0] ∧ Ent (m ++ L) w' ∧ KidsAt (m ++ L) (.slice a 1 c) W2.kids) from by
      refine (Build_any (es := we2) (by decide) (fun x hx => by simp only [we2, List.mem_cons, List.not_mem_nil, or_false] at hx; subst hx; exact ⟨by decide, by decide⟩) (fun w h => reads_pt h 0 rfl (off := 0) (fun j u hu => by rw [Nat.zero_add, List.getElem?_toArray]; exact hu)) hE).mono ?_
      rintro e w' ⟨v, rfl, m, kv, h, hE, hk⟩
      rw [wb2] at h hk
      obtain ⟨a, c, rfl⟩ := hk.slice
      exact ⟨_, rfl, m ++ [pt b (.cells #[.string ⟨#[100]⟩, .bool false, .string ⟨#[97, 98]⟩] 63)], a, c, h, by rw [List.append_assoc]; exact hE, by rw [List.append_assoc]; exact hk⟩)
  have HD := SL.hid (fun (a a2 : Option Addr) (c c2 : Nat) (L : List HProp) (w : World) (hk : KidsAt L (.slice a 1 c) W1.kids) (hk2 : KidsAt L (.slice a2 1 c2) W2.kids) (hE : Ent L w) =>
    show Calls Tryd.prog 11 #[.agg #[.bool true, .string ⟨#[]⟩, .slice a 1 c], .agg #[.bool true, .string ⟨#[]⟩, .slice a2 1 c2]] w (Ret fun v w' => ∃ ao c m, v = .slice ao 2 c ∧ Ent (rowCh ao c wl :: (m ++ L)) w') from by
      have h := Diff_any ww1 ww2 (by rw [wa1]; decide) (by rw [wa2]; decide) hk hk2 hE
      rw [wa1, wa2, wd] at h
      exact h)
  have HP1 := SL.hid (fun (a : Option Addr) (c : Nat) (a2 : Option Addr) (c2 : Nat) (hc2 : 2 ≤ c2) (L : List HProp) (w : World) (hk : KidsAt L (.slice a 1 c) W1.kids) (hr : Knows L (reads (.slice a2 2 c2) 2 (wl.flatMap chC))) (hE : Ent L w) =>
    show Calls Tryd.prog 20 #[.agg #[.bool true, .string ⟨#[]⟩, .slice a 1 c], .slice a2 2 c2] w (Ret fun v w' => ∃ m a c, v = .tuple #[.agg #[.bool true, .string ⟨#[]⟩, .slice a 1 c], .int .i64 0] ∧ Ent (m ++ L) w' ∧ KidsAt (m ++ L) (.slice a 1 c) W2.kids) from by
      have h := Apply_in ww1 (cs := wl) (by rw [wa1]; decide) (by rw [wa1]; exact wlen3) wlen1 (ao := a2) (c := c2) hc2 hk (fun L' w' hs h => may_any (by decide) (fun x hx => (wlen1 x hx).1) (hr.suf hs) h) hr hE
      rw [wa1, wap1] at h
      refine h.mono ?_
      rintro e w' ⟨v, rfl, m, a', c', h, hE, hk⟩
      exact ⟨_, rfl, m, a', c', h, hE, hk⟩)
  have HP2 := SL.hid (fun (a : Option Addr) (c : Nat) (a2 : Option Addr) (c2 : Nat) (hc2 : 2 ≤ c2) (L : List HProp) (w : World) (hk : KidsAt L (.slice a 1 c) W1.kids) (hr : Knows L (reads (.slice a2 2 c2) 2 (wm.flatMap chC))) (hE : Ent L w) =>
    show Calls Tryd.prog 20 #[.agg #[.bool true, .string ⟨#[]⟩, .slice a 1 c], .slice a2 2 c2] w (Ret fun v w' => ∃ m a c, v = .tuple #[.agg #[.bool false, .string ⟨#[]⟩, .slice a 0 c], .int .i64 10] ∧ Ent (m ++ L) w') from by
      have h := Apply_in ww1 (cs := wm) (by rw [wa1]; decide) (by rw [wa1]; exact wlen3) wlen2 (ao := a2) (c := c2) hc2 hk (fun L' w' hs h => may_any (by decide) (fun x hx => (wlen2 x hx).1) (hr.suf hs) h) hr hE
      rw [wa1, wap2] at h
      refine h.mono ?_
      rintro e w' ⟨v, rfl, m, a', c', h, hE, hk⟩
      exact ⟨_, rfl, m, a', c', h, hE⟩)
  have HR := SL.hid (fun (a2 : Option Addr) (c2 : Nat) (L : List HProp) (w : World) (hr : Knows L (reads (.slice a2 2 c2) 2 (wl.flatMap chC))) (hE : Ent L w) =>
    show Calls Tryd.prog 26 #[.slice a2 2 c2] w (Ret fun v w' => ∃ ao c, v = .tuple #[.slice ao 2 c, .int .i64 0] ∧ Ent (rowCh ao c wm :: L) w') from by
      have h := Reverse_in (es := wl) (by decide) (ao := a2) (c := c2) (fun w' h => may_any (by decide) (fun x hx => (wlen1 x hx).1) hr h) hr hE
      rw [wrv1, wrv2] at h
      exact h)
  have HC := SL.hid (fun (a2 : Option Addr) (c2 : Nat) (a3 : Option Addr) (c3 : Nat) (hc2 : 2 ≤ c2) (hc3 : 2 ≤ c3) (L : List HProp) (w : World) (hr : Knows L (reads (.slice a2 2 c2) 2 (wl.flatMap chC))) (hr2 : Knows L (reads (.slice a3 2 c3) 2 (wm.flatMap chC))) (hE : Ent L w) =>
    show Calls Tryd.prog 24 #[.slice a2 2 c2, .slice a3 2 c3] w (Ret fun v w' => ∃ ao c m, v = .tuple #[.slice ao 0 c, .int .i64 0] ∧ Ent (m ++ L) w') from by
      have h := Compose_in (a := wl) (b := wm) (by decide) (by decide) (fun x hx => (wlen1 x hx).1) (fun x hx => (wlen2 x hx).1) (aa := a2) (ab := a3) (ca := c2) (cb := c3) hc2 hc3 (fun w' h => may_any (by decide) (fun x hx => (wlen1 x hx).1) hr h) (fun w' h => may_any (by decide) (fun x hx => (wlen2 x hx).1) hr2 h) hr hr2 hE
      rw [wcm1, wcm2] at h
      refine h.mono ?_
      rintro e w' ⟨v, rfl, ao, c, m, h, hE⟩
      exact ⟨_, rfl, ao, c, m, h, hE.tail⟩)
  have HO := SL.hid (fun (L : List HProp) (w : World) (hE : Ent L w) =>
    show Calls Tryd.prog 17 #[.string ⟨#[97, 47, 98]⟩, .string ⟨#[97, 33]⟩] w (Ret fun v w' => v = .int .i64 (-1) ∧ Ent L w') from by
      have h := Order_any (p := [97, 47, 98]) (q := [97, 33]) (by decide) (by decide) hE
      rw [word] at h
      exact h)
  have HF := SL.hid (fun (a : Option Addr) (c : Nat) (L : List HProp) (w : World) (hk : KidsAt L (.slice a 1 c) W1.kids) (hE : Ent L w) =>
    show Calls Tryd.prog 14 #[.agg #[.bool true, .string ⟨#[]⟩, .slice a 1 c], .string ⟨#[100, 47, 120]⟩] w (Ret fun v w' => v = .agg #[.bool true, .bool false, .string ⟨#[97, 98]⟩] ∧ ∃ m, Ent (m ++ L) w') from by
      have h := Of_any ww1 (p := [100, 47, 120]) (by decide) hk hE
      rw [wof] at h
      exact h)
  have hEq : ∀ w, (Op.equalIn 10000 65 (.agg #[.string ⟨#[100]⟩, .bool true, .bool true, .string ⟨#[]⟩, .bool true, .bool false, .string ⟨#[97, 98]⟩]) (.agg #[.string ⟨#[100]⟩, .bool true, .bool true, .string ⟨#[]⟩, .bool true, .bool false, .string ⟨#[97, 98]⟩])).run Tryd.prog w = .ok true w := fun w => by
    have := eqCh ⟨[100], ⟨true, true, []⟩, ⟨true, false, [97, 98]⟩⟩ ⟨[100], ⟨true, true, []⟩, ⟨true, false, [97, 98]⟩⟩ w
    rwa [beq_self_eq_true] at this
  have hfld := side_field (.bool true) (.bool false) [97, 98]
  have A1 := SL.hid True.intro
  have A2 := SL.hid True.intro
  go_enter Tryd.func9, Tryd.ntmps9
  go_wp2_with (first
    | go_skip
    | ((with_reducible (show Go.wpList _ _ _ (Go.Oper.mk _ (.buildSlice 22 2 _) _ _ _ _ :: _) _ _)); refine wpl_build2 hE rfl rfl (xs := [.string ⟨#[100]⟩, .bool true, .string ⟨#[]⟩]) (ys := [.string ⟨#[100, 47, 120]⟩, .bool false, .string ⟨#[97, 98]⟩]) rfl rfl Tryd.underlying22 zs_en Tryd.sizeOf63 (by decide) (by decide) rfl rfl ?_; clear hE; intro s1 w hE)
    | ((with_reducible (show Go.wpList _ _ _ (Go.Oper.mk _ (.buildSlice 22 1 _) _ _ _ _ :: _) _ _)); refine wpl_build1 hE rfl rfl (xs := [.string ⟨#[100]⟩, .bool false, .string ⟨#[97, 98]⟩]) rfl Tryd.underlying22 zs_en Tryd.sizeOf63 (by decide) (by decide) rfl ?_; clear hE; intro s2 w hE)
    | (clear A1; go_at_call 29; refine (HB1.out _ _ _ hE).mono ?_; clear hE; rintro e w2 ⟨v, h1, m1, ka, kc, h2, hE, hK1⟩; cases h1; cases h2)
    | (go_at_call 29; refine (HB2.out _ _ _ hE).mono ?_; clear hE; rintro e w2 ⟨v, h1, m2, kb, kd, h2, hE, hK2⟩; cases h1; cases h2)
    | ((with_reducible (show Go.wpList _ _ _ (Go.Oper.mk _ (.alloc 25) _ _ _ _ :: _) _ _)); refine wpl_alloc hE rfl rfl (by simp [go_sem]; rfl) ?_; clear hE; intro b w hE; simp only [Act.eval, Act.put, List.setIfInBounds_toArray, List.set_cons_zero, List.set_cons_succ, getD_lit, List.getD_cons_succ, List.getD_cons_zero, Value.cells] at hE)
    | ((with_reducible (show Go.wpList _ _ _ (Go.Oper.mk _ (.store 25 (.tmp 1) _) _ _ _ _ :: _) _ _)); refine wpl_storeW hE 0 rfl rfl rfl (xs := [_, _, _]) rfl rfl Tryd.sizeOf25 rfl (by simp [Value.oneCell']) rfl ?_; clear hE; intro w hE; simp only [List.set_cons_zero] at hE; have F1 := SL.hid (fun w h => atWm (t := 25) (P := Tryd.prog) (h : Ent (pt b (.cells #[.bool true, .string ⟨#[]⟩, .slice ka 1 kc] 25) :: (m1 ++ l)) w) (by repeat (first | exact List.Mem.head _ | refine List.Mem.tail _ ?_)) Tryd.isAgg25 Tryd.sizeOf25 rfl))
    | ((with_reducible (show Go.wpList _ _ _ (Go.Oper.mk _ (.store 25 (.tmp 3) _) _ _ _ _ :: _) _ _)); refine wpl_storeW hE 0 rfl rfl rfl (xs := [_, _, _]) rfl rfl Tryd.sizeOf25 rfl (by simp [Value.oneCell']) rfl ?_; clear hE; intro w hE; simp only [List.set_cons_zero] at hE)
    | ((with_reducible (show Go.wpList _ _ _ (Go.Oper.mk _ (.load 25 (.tmp 1)) _ _ _ _ :: _) _ _)); refine wpl_loadF rfl rfl rfl (F1.out _ (hE.suf sfx)) ?_)
    | ((with_reducible (show Go.wpList _ _ _ (Go.Oper.mk _ (.load 25 (.tmp 3)) _ _ _ _ :: _) _ _)); refine wpl_loadW hE 0 rfl rfl rfl rfl Tryd.isAgg25 Tryd.sizeOf25 rfl ?_)
    | (go_at_call 11; refine (HD.out _ _ _ _ _ _ (hK1.suf sfx) (hK2.suf sfx) hE).mono ?_; clear hE; rintro e w2 ⟨v, h1, a3, c3, m3, h2, hE⟩; cases h1; cases h2; have hc3 := SL.hid (row_capQ hE 0 rfl); have HKl := SL.hid (row_knows hE); obtain ⟨g3, o3, h3, G3⟩ := wl_loads HKl.out hE; cases h3; have G3 := SL.hid G3)
    | (clear A2; go_at_call 20; refine (HP1.out _ _ _ _ hc3.out _ _ (hK1.suf sfx) (HKl.out.suf sfx) hE).mono ?_; clear hE; rintro e w2 ⟨v, h1, m6, a6, c6, h2, hE, hK6⟩; cases h1; cases h2; obtain ⟨g6, o6, h6, G6⟩ := kid_data hK6 hE; cases h6; have G6 := SL.hid G6)
    | ((with_reducible (show Go.wpList _ _ _ (Go.Oper.mk _ (.store 25 (.tmp 6) _) _ _ _ _ :: _) _ _)); refine wpl_storeW hE 0 rfl rfl rfl (xs := [_, _, _]) rfl rfl Tryd.sizeOf25 rfl (by simp [Value.oneCell']) rfl ?_; clear hE; intro w hE; simp only [List.set_cons_zero] at hE; have F6 := SL.hid (kid_cell hE))
    | (go_at_call 26; refine (HR.out _ _ _ _ (HKl.out.suf sfx) hE).mono ?_; clear hE; rintro e w2 ⟨v, h1, a7, c7, h2, hE⟩; cases h1; cases h2; have hc7 := SL.hid (row_capQ hE 0 rfl); have HKm := SL.hid (row_knows hE))
    | (go_at_call 20; refine (HP2.out _ _ _ _ hc7.out _ _ (hK1.suf sfx) (HKm.out.suf sfx) hE).mono ?_; clear hE; rintro e w2 ⟨v, h1, m8, a8, c8, h2, hE⟩; cases h1; cases h2)
    | ((with_reducible (show Go.wpList _ _ _ (Go.Oper.mk _ (.store 25 (.tmp 10) _) _ _ _ _ :: _) _ _)); refine wpl_storeW hE 0 rfl rfl rfl (xs := [_, _, _]) rfl rfl Tryd.sizeOf25 rfl (by simp [Value.oneCell']) rfl ?_; clear hE; intro w hE; simp only [List.set_cons_zero] at hE)
    | (go_at_call 24; refine (HC.out _ _ _ _ hc3.out hc7.out _ _ (HKl.out.suf sfx) (HKm.out.suf sfx) hE).mono ?_; clear hE; rintro e w2 ⟨v, h1, a9, c9, m9, h2, hE⟩; cases h1; cases h2)
    | ((with_reducible (show Go.wpList _ _ _ (Go.Oper.mk _ (.load 65 _) _ _ _ _ :: _) _ _)); refine wpl_loadF rfl rfl rfl (G3.out _ (hE.suf sfx)).1 ?_)
    | ((with_reducible (show Go.wpList _ _ _ (Go.Oper.mk _ (.load 9 (.tmp 74)) _ _ _ _ :: _) _ _)); refine wpl_loadF rfl rfl rfl (G3.out _ (hE.suf sfx)).2.1 ?_)
    | ((with_reducible (show Go.wpList _ _ _ (Go.Oper.mk _ (.load 4 _) _ _ _ _ :: _) _ _)); refine wpl_loadF rfl rfl rfl (G3.out _ (hE.suf sfx)).2.2 ?_)
    | ((with_reducible (show Go.wpList _ _ _ (Go.Oper.mk _ (.load 23 _) _ _ _ _ :: _) _ _)); refine wpl_loadF rfl rfl rfl (F6.out _ (hE.suf sfx)) ?_)
    | ((with_reducible (show Go.wpList _ _ _ (Go.Oper.mk _ (.load 9 (.tmp 95)) _ _ _ _ :: _) _ _)); refine wpl_loadF rfl rfl rfl (G6.out _ (hE.suf sfx)) ?_)
    | (go_at_call 17; refine (HO.out _ _ hE).mono ?_; clear hE; rintro e w2 ⟨v, h1, h2, hE⟩; cases h1; cases h2)
    | (go_at_call 14; refine (HF.out _ _ _ _ (hK1.suf sfx) hE).mono ?_; clear hE; rintro e w2 ⟨v, h1, h2, m5, hE⟩; cases h1; cases h2))
  refine bodyPost_ret (results_tmp rfl _ _ _) rfl ?_
  exact ⟨_, rfl, rfl, [], hE.drop.drop.tail.drop.tail.tail.drop.tail.drop.tail.drop.tail.drop⟩
end Go.Proofs.YtcpgelpajppgdaaDoor
namespace Go.Proofs.YtcpgelpajppgdaaDoor
open Go.RowKit Go.SL

theorem treeP_good {es : List En} {t : Tr} (h : treeP es = some t) : great es = false ∧ Good t es := by
  have hgr : great es = false := by
    cases hg : great es with
    | false => rfl
    | true => rw [treeP, if_pos hg] at h; cases h
  rw [treeP, if_neg (by rw [hgr]; simp)] at h
  have h0 : (buildT es).1 = 0 := by
    by_cases h0 : (buildT es).1 = 0
    · exact h0
    · rw [if_neg h0] at h; cases h
  rw [if_pos h0] at h
  have ht : (buildT es).2 = t := Option.some.inj h
  have hG := ((build_same es).2 h0).1
  rw [((build_same es).2 h0).2, ht] at hG
  exact ⟨hgr, hG⟩
/-- what is known of a tree's entries -/
theorem tree_ents {es : List En} {t : Tr} (h : treeP es = some t) : Tr.Wf 6 t ∧ t.dir = true ∧ t.data = [] ∧ (entT 6 [] t).length ≤ 100 ∧ (∀ x ∈ entT 6 [] t, x.path.length ≤ 200 ∧ x.data.length ≤ 9000) ∧ (∀ x ∈ entT 6 [] t, x.path ≠ []) ∧ RiseP ((entT 6 [] t).map En.path) := by
  obtain ⟨hg, hG⟩ := treeP_good h
  obtain ⟨h1, h2⟩ := great_not.1 hg
  have hp := all_perm hG
  exact ⟨hG.2.1, hG.2.2.1, hG.2.2.2, by rw [hp.length_eq]; exact h1, fun x hx => h2 x (hp.mem_iff.1 hx), fun x hx => (ent_path hG.2.1 hx).2.2, ent_rise hG.2.1⟩
def TfPost (b : Bool) (l : List HProp) (v : Value) (w' : World) : Prop := ∃ (m : List HProp) (d : Bool) (s : ByteArray) (a : Option Addr) (n c : Nat) (a' : Option Addr) (n' c' : Nat), v = .tuple #[.agg #[.bool d, .string s, .slice a n c], .slice a' n' c', .bool b] ∧ Ent (m ++ l) w'
theorem Tree_tf {es : List En} {b : Bool} (h : (treeP es).isSome = b) {ao : Option Addr} {c : Nat} {l : List HProp} {w : World} (hk : Knows l (reads (.slice ao es.length c) es.length (es.flatMap enC))) (hE : Ent l w) :
    Calls Tryd.prog 8 #[.slice ao es.length c] w (Ret (TfPost b l)) := by
  cases ht : treeP es with
  | none =>
    rw [ht] at h
    subst h
    refine (Tree_none ht hk hE).mono ?_
    rintro e w' ⟨v, rfl, m, a, c, a', c', h, hE⟩
    exact ⟨_, rfl, m, _, _, a, 0, c, a', 0, c', h, hE⟩
  | some t =>
    rw [ht] at h
    subst h
    refine (Tree_good ht hk hE).mono ?_
    rintro e w' ⟨v, rfl, m, a, c, a', c', h, hE, _⟩
    exact ⟨_, rfl, m, _, _, a, _, c, a', _, c', h, hE⟩
theorem node_knows {b : Nat} {x y v : Value} {R : List HProp} {w : World} (_ : Ent (pt b (.cells #[x, y, v] 25) :: R) w) : ∀ w, Ent (pt b (.cells #[x, y, v] 25) :: R) w → (Instr.loadAt 25 (.pointer (some ⟨b, 0, none⟩))).run Tryd.prog w = .ok (.agg #[x, y, v]) w := fun _ h => atWm (vs := [x, y, v]) h (List.Mem.head _) Tryd.isAgg25 Tryd.sizeOf25 rfl
theorem node_false {b : Nat} {x y v : Value} {R : List HProp} {w : World} (_ : Ent (pt b (.cells #[x, y, v] 25) :: R) w) : ∀ w, Ent (pt b (.cells #[x, y, v] 25) :: R) w → (Instr.loadAt 4 (.pointer (some ⟨b, 0, none⟩))).run Tryd.prog w = .ok x w := fun _ h => run_load1 h 0 rfl (by simp [go_sem]) rfl
theorem rowRc_knows {ao : Option Addr} {c : Nat} {xs : List Ch} {R : List HProp} {w : World} (_ : Ent (rowRc ao c xs :: R) w) : Knows (rowRc ao c xs :: R) (reads (.slice ao xs.length c) xs.length (xs.flatMap chC)) := fun _ h => reads_row h 0 rfl
theorem rowEn_knows {ao : Option Addr} {c : Nat} {xs : List En} {R : List HProp} {w : World} (_ : Ent (rowEn ao c xs :: R) w) : Knows (rowEn ao c xs :: R) (reads (.slice ao xs.length c) xs.length (xs.flatMap enC)) := fun _ h => reads_row h 0 rfl
/-- the document's differences are the program's -/
theorem rdiff_same {a b : List En} (ha : ∀ x ∈ a, x.path ≠ []) (hb : ∀ x ∈ b, x.path ≠ []) : rDiffP a b = diffP a b := by
  unfold rDiffP diffP
  refine fm_congr fun k hk => ?_
  rw [sortK_mem, List.mem_append] at hk
  have hn : k ≠ [] := by
    rcases hk with h | h
    · obtain ⟨y, hy, rfl⟩ := List.mem_map.1 h
      exact ha y hy
    · obtain ⟨y, hy, rfl⟩ := List.mem_map.1 h
      exact hb y hy
  rw [rOf_fE hn, rOf_fE hn]
theorem diff_len (a b : List En) : (diffP a b).length ≤ a.length + b.length := by
  unfold diffP
  have h1 := List.length_filterMap_le (fun k => chg k (fE a k) (fE b k)) (sortK (a.map En.path ++ b.map En.path))
  have h2 := sortK_len (a.map En.path ++ b.map En.path)
  simp at h2
  omega
/-- what is known of the changes between two rows -/
theorem diff_ok {a b : List En} (ha : ∀ x ∈ a, x.path.length ≤ 200 ∧ x.data.length ≤ 9000) (hb : ∀ x ∈ b, x.path.length ≤ 200 ∧ x.data.length ≤ 9000) : ∀ x ∈ diffP a b, x.path.length ≤ 200 ∧ x.was.data.length ≤ 9000 ∧ x.now.data.length ≤ 9000 := by
  intro x hx
  obtain ⟨k, hk, h⟩ := List.mem_filterMap.1 hx
  rw [sortK_mem, List.mem_append] at hk
  have hs : ∀ (l : List En), (∀ x ∈ l, x.path.length ≤ 200 ∧ x.data.length ≤ 9000) → (fE l k).data.length ≤ 9000 := by
    intro l hl
    unfold fE
    cases hf : l.find? (fun x => x.path == k) with
    | none => simp [sideO, Sd.no]
    | some z => exact (hl z (List.mem_of_find?_eq_some hf)).2
  unfold chg at h
  split at h
  · cases h
  · cases h
    refine ⟨?_, hs a ha, hs b hb⟩
    rcases hk with h | h
    · obtain ⟨y, hy, rfl⟩ := List.mem_map.1 h
      exact (ha y hy).1
    · obtain ⟨y, hy, rfl⟩ := List.mem_map.1 h
      exact (hb y hy).1
end Go.Proofs.YtcpgelpajppgdaaDoor
namespace Go.Proofs.YtcpgelpajppgdaaDoor
open Go.RowKit Go.SL

set_option maxRecDepth 100000 in
set_option maxHeartbeats 8000000 in
attribute [-go_sem] Instr.loadAt Go.run_equalIn_agg in
theorem rMay_any {es : List Ch} (hn : es.length ≤ 100000) (hp : ∀ x ∈ es, x.path.length ≤ 100000) {ao : Option Addr} {c : Nat} {l : List HProp} {w : World} (hk : Knows l (reads (.slice ao es.length c) es.length (es.flatMap chC))) (hE : Ent l w) :
    Calls Tryd.prog 46 #[.slice ao es.length c] w (Ret (MPost es l)) := by
  have Hp := SL.hid hp
  clear hp
  go_enter Tryd.func46, Tryd.ntmps46
  go_wp2
  go_loopw [3] (fun i wr => MyRel es l i wr) (fun i _ => es.length - (intOf i).toNat)
  case atStart => exact ⟨0, Nat.zero_le _, rfl, by simpa using mayR_nil, hE⟩
  case round =>
    clear hE
    obtain ⟨k, hkl, rfl, hpre, hE⟩ := hrel
    by_cases hlt : k < es.length
    · obtain ⟨b, off, rfl, hz⟩ := ch_at (hk _ hE) hlt
      clear hz
      have f0 := SL.hid (show ∀ w, Ent l w → _ from fun w h => load_rc (hk w h) hlt)
      have Hst := SL.hid (mayR_at hlt hpre)
      have hxl := Hp.out es[k] (List.getElem_mem hlt)
      obtain ⟨x, hx⟩ : ∃ x, es[k] = x := ⟨_, rfl⟩
      have HX := SL.hid hx
      rw [hx] at f0 Hst hxl
      clear hx hpre
      obtain ⟨xp, ⟨qt, qd, qb⟩, ⟨ut, ud, ub⟩⟩ := x
      simp only [chC, sdC] at f0
      simp only at hxl
      have hg : goodC ⟨xp, ⟨qt, qd, qb⟩, ⟨ut, ud, ub⟩⟩ = (splitE xp == 0 && (!(splitL xp).isEmpty && (!((⟨qt, qd, qb⟩ : Sd) == ⟨ut, ud, ub⟩) && (maySd ⟨qt, qd, qb⟩ && maySd ⟨ut, ud, ub⟩)))) := rfl
      have HA := SL.hid (fun (L : List HProp) (w : World) (h : Ent L w) => rside_any ⟨qt, qd, qb⟩ h)
      have HB := SL.hid (fun (L : List HProp) (w : World) (h : Ent L w) => rside_any ⟨ut, ud, ub⟩ h)
      have hEq := fun w => eqSr 9998 ⟨qt, qd, qb⟩ ⟨ut, ud, ub⟩ w
      have HS := SL.hid (fun (L : List HProp) (w : World) (h : Ent L w) => rSplit_any (p := xp) (by omega) h)
      have HO := SL.hid (fun (L : List HProp) (w : World) (q : List UInt8) (hq : q.length ≤ 100000) (h : Ent L w) => rOrder_any (p := q) (q := xp) hq hxl h)
      simp only [sdV] at HA HB
      simp only [sdC] at hEq
      have Hsn := SL.hid (split_none (p := xp))
      obtain ⟨lp, hlp⟩ : ∃ lp, splitL xp = lp := ⟨_, rfl⟩
      obtain ⟨er, her⟩ : ∃ er, splitE xp = er := ⟨_, rfl⟩
      rw [hlp] at HS hg Hsn
      rw [her] at HS hg Hsn
      clear hlp her hxl
      generalize ((⟨qt, qd, qb⟩ : Sd) == ⟨ut, ud, ub⟩) = eq at *
      generalize maySd ⟨qt, qd, qb⟩ = m1 at *
      generalize maySd ⟨ut, ud, ub⟩ = m2 at *
      generalize goodC ⟨xp, ⟨qt, qd, qb⟩, ⟨ut, ud, ub⟩⟩ = g at *
      have Hg := SL.hid hg
      clear hg
      have f0' := (f0.out _ hE).2.1
      go_wp2_with (first
        | go_skip
        | (go_at_call 64; clear f0'; refine (HS.out _ _ hE).mono ?_; clear hE; rintro e w2 ⟨v, h1, a1, c1, h2, hE⟩; cases h1; cases h2))
      cases hne : (er != 0)
      case' true =>
        have Hb := SL.hid (show g = false by rw [Hg.out]; have he : (er == 0) = false := by simpa using hne
                                             rw [he, Bool.false_and])
        have hO := hE.drew
        refine wp_region_held_drew (S := (fun w' => ((Instr.loadAt 9 (.pointer (some ⟨b, off + k * 7, none⟩))).run Tryd.prog w' = .ok (.string ⟨xp.toArray⟩) w') ∧ ((Instr.loadAt 39 (.pointer (some ⟨b, off + k * 7 + 1, none⟩))).run Tryd.prog w' = .ok (.agg #[.bool qt, .bool qd, .string ⟨qb.toArray⟩]) w') ∧ ((Instr.loadAt 39 (.pointer (some ⟨b, off + k * 7 + 4, none⟩))).run Tryd.prog w' = .ok (.agg #[.bool ut, .bool ud, .string ⟨ub.toArray⟩]) w'))) (by kernel_rfl) ⟨(f0.out _ (hO.suf sfx)).2.1, (f0.out _ (hO.suf sfx)).2.2.1, (f0.out _ (hO.suf sfx)).2.2.2⟩ (fun hS => ?_)
        refine tV 0 ⟨some 21, .move (.tmp 5), _, _, _, none⟩ hS ?_
        refine tV 1 ⟨some 22, .binOp .neq 44 (.tmp 21) (.const (.int .i64 0)) 44, _, _, _, none⟩ hS ?_
        refine tV 2 ⟨some 23, .move (.tmp 22), _, _, _, none⟩ hS ?_
        refine tU 3 ⟨some 24, .move (.tmp 0), _, _, _, some (2, false)⟩ hS ?_
        refine tU 4 ⟨some 25, .move (.tmp 3), _, _, _, some (2, false)⟩ hS ?_
        refine tU 5 ⟨some 26, .indexAddr 33 (.tmp 24) (.tmp 25), _, _, _, some (2, false)⟩ hS ?_
        refine tU 6 ⟨some 27, .fieldAddr 74 (.tmp 26) 0, _, _, _, some (2, false)⟩ hS ?_
        refine tU 7 ⟨some 28, .load 9 (.tmp 27), _, _, _, some (2, false)⟩ hS ?_
        refine tU 8 ⟨some 29, .binOp .eql 9 (.tmp 28) (.const (.string { data := #[] })) 9, _, _, _, some (2, false)⟩ hS ?_
        refine tV 9 ⟨some 30, .pick (.tmp 23) (.const (.bool true)) (.tmp 29), _, _, _, none⟩ hS ?_
        refine tV 10 ⟨some 31, .move (.tmp 30), _, _, _, none⟩ hS ?_
        refine tU 11 ⟨some 32, .move (.tmp 0), _, _, _, some (10, false)⟩ hS ?_
        refine tU 12 ⟨some 33, .move (.tmp 3), _, _, _, some (10, false)⟩ hS ?_
        refine tU 13 ⟨some 34, .indexAddr 33 (.tmp 32) (.tmp 33), _, _, _, some (10, false)⟩ hS ?_
        refine tU 14 ⟨some 35, .fieldAddr 74 (.tmp 34) 1, _, _, _, some (10, false)⟩ hS ?_
        refine tU 15 ⟨some 36, .load 39 (.tmp 35), _, _, _, some (10, false)⟩ hS ?_
        refine tU 16 ⟨some 37, .move (.tmp 0), _, _, _, some (10, false)⟩ hS ?_
        refine tU 17 ⟨some 38, .move (.tmp 3), _, _, _, some (10, false)⟩ hS ?_
        refine tU 18 ⟨some 39, .indexAddr 33 (.tmp 37) (.tmp 38), _, _, _, some (10, false)⟩ hS ?_
        refine tU 19 ⟨some 40, .fieldAddr 74 (.tmp 39) 2, _, _, _, some (10, false)⟩ hS ?_
        refine tU 20 ⟨some 41, .load 39 (.tmp 40), _, _, _, some (10, false)⟩ hS ?_
        refine tU 21 ⟨some 42, .binOp .eql 39 (.tmp 36) (.tmp 41) 39, _, _, _, some (10, false)⟩ hS ?_
        refine tV 22 ⟨some 43, .pick (.tmp 31) (.const (.bool true)) (.tmp 42), _, _, _, none⟩ hS ?_
        refine tV 23 ⟨some 44, .move (.tmp 43), _, _, _, none⟩ hS ?_
        refine tU 24 ⟨some 45, .move (.tmp 0), _, _, _, some (23, false)⟩ hS ?_
        refine tU 25 ⟨some 46, .move (.tmp 3), _, _, _, some (23, false)⟩ hS ?_
        refine tU 26 ⟨some 47, .indexAddr 33 (.tmp 45) (.tmp 46), _, _, _, some (23, false)⟩ hS ?_
        refine tU 27 ⟨some 48, .fieldAddr 74 (.tmp 47) 1, _, _, _, some (23, false)⟩ hS ?_
        refine tU 28 ⟨some 49, .load 39 (.tmp 48), _, _, _, some (23, false)⟩ hS ?_
        refine tU 29 ⟨some 50, .call { callee := .value (.func 65), args := #[.tmp 49], argTypes := #[39] }, _, _, _, some (23, false)⟩ hS ?_
        refine tU 30 ⟨some 51, .unOp Go.UnOp.not 4 (.tmp 50), _, _, _, some (23, false)⟩ hS ?_
        refine tV 31 ⟨some 52, .pick (.tmp 44) (.const (.bool true)) (.tmp 51), _, _, _, none⟩ hS ?_
        refine tV 32 ⟨some 53, .move (.tmp 52), _, _, _, none⟩ hS ?_
        refine tU 33 ⟨some 54, .move (.tmp 0), _, _, _, some (32, false)⟩ hS ?_
        refine tU 34 ⟨some 55, .move (.tmp 3), _, _, _, some (32, false)⟩ hS ?_
        refine tU 35 ⟨some 56, .indexAddr 33 (.tmp 54) (.tmp 55), _, _, _, some (32, false)⟩ hS ?_
        refine tU 36 ⟨some 57, .fieldAddr 74 (.tmp 56) 2, _, _, _, some (32, false)⟩ hS ?_
        refine tU 37 ⟨some 58, .load 39 (.tmp 57), _, _, _, some (32, false)⟩ hS ?_
        refine tU 38 ⟨some 59, .call { callee := .value (.func 65), args := #[.tmp 58], argTypes := #[39] }, _, _, _, some (32, false)⟩ hS ?_
        refine tU 39 ⟨some 60, .unOp Go.UnOp.not 4 (.tmp 59), _, _, _, some (32, false)⟩ hS ?_
        refine tV 40 ⟨some 61, .pick (.tmp 53) (.const (.bool true)) (.tmp 60), _, _, _, none⟩ hS ?_
        refine wpAnyH_done (by kernel_rfl) ?_ _
        all_goals
          clear hS hE
          have hE := hO.tail
          clear hO
          go_wp2
          refine bodyPost_ret (results_tmp rfl _ _ _) rfl ?_
          exact ⟨_, rfl, .mk false hE (iff_of_false (by decide) (fun h => by have := (Hst.out.2 h).1; rw [Hb.out] at this; cases this))⟩
      obtain rfl : er = 0 := by simpa using hne
      clear hne
      have hle := Hsn.out rfl
      rw [hle] at Hg
      clear hle
      cases hpe : (xp == [])
      case' true =>
        have Hb := SL.hid (show g = false by rw [Hg.out, hpe]; simp)
        have hO := hE.drew
        refine wp_region_held_drew (S := (fun w' => ((Instr.loadAt 9 (.pointer (some ⟨b, off + k * 7, none⟩))).run Tryd.prog w' = .ok (.string ⟨xp.toArray⟩) w') ∧ ((Instr.loadAt 39 (.pointer (some ⟨b, off + k * 7 + 1, none⟩))).run Tryd.prog w' = .ok (.agg #[.bool qt, .bool qd, .string ⟨qb.toArray⟩]) w') ∧ ((Instr.loadAt 39 (.pointer (some ⟨b, off + k * 7 + 4, none⟩))).run Tryd.prog w' = .ok (.agg #[.bool ut, .bool ud, .string ⟨ub.toArray⟩]) w'))) (by kernel_rfl) ⟨(f0.out _ (hO.suf sfx)).2.1, (f0.out _ (hO.suf sfx)).2.2.1, (f0.out _ (hO.suf sfx)).2.2.2⟩ (fun hS => ?_)
        refine tV 0 ⟨some 21, .move (.tmp 5), _, _, _, none⟩ hS ?_
        refine tV 1 ⟨some 22, .binOp .neq 44 (.tmp 21) (.const (.int .i64 0)) 44, _, _, _, none⟩ hS ?_
        refine tV 2 ⟨some 23, .move (.tmp 22), _, _, _, none⟩ hS ?_
        refine tV 3 ⟨some 24, .move (.tmp 0), _, _, _, some (2, false)⟩ hS ?_
        refine tV 4 ⟨some 25, .move (.tmp 3), _, _, _, some (2, false)⟩ hS ?_
        refine tV 5 ⟨some 26, .indexAddr 33 (.tmp 24) (.tmp 25), _, _, _, some (2, false)⟩ hS ?_
        refine tV 6 ⟨some 27, .fieldAddr 74 (.tmp 26) 0, _, _, _, some (2, false)⟩ hS ?_
        refine tL 7 ⟨some 28, .load 9 (.tmp 27), _, _, _, some (2, false)⟩ hS ?_
        refine tV 8 ⟨some 29, .binOp .eql 9 (.tmp 28) (.const (.string { data := #[] })) 9, _, _, _, some (2, false)⟩ hS ?_
        refine tV 9 ⟨some 30, .pick (.tmp 23) (.const (.bool true)) (.tmp 29), _, _, _, none⟩ hS ?_
        refine tV 10 ⟨some 31, .move (.tmp 30), _, _, _, none⟩ hS ?_
        refine tU 11 ⟨some 32, .move (.tmp 0), _, _, _, some (10, false)⟩ hS ?_
        refine tU 12 ⟨some 33, .move (.tmp 3), _, _, _, some (10, false)⟩ hS ?_
        refine tU 13 ⟨some 34, .indexAddr 33 (.tmp 32) (.tmp 33), _, _, _, some (10, false)⟩ hS ?_
        refine tU 14 ⟨some 35, .fieldAddr 74 (.tmp 34) 1, _, _, _, some (10, false)⟩ hS ?_
        refine tU 15 ⟨some 36, .load 39 (.tmp 35), _, _, _, some (10, false)⟩ hS ?_
        refine tU 16 ⟨some 37, .move (.tmp 0), _, _, _, some (10, false)⟩ hS ?_
        refine tU 17 ⟨some 38, .move (.tmp 3), _, _, _, some (10, false)⟩ hS ?_
        refine tU 18 ⟨some 39, .indexAddr 33 (.tmp 37) (.tmp 38), _, _, _, some (10, false)⟩ hS ?_
        refine tU 19 ⟨some 40, .fieldAddr 74 (.tmp 39) 2, _, _, _, some (10, false)⟩ hS ?_
        refine tU 20 ⟨some 41, .load 39 (.tmp 40), _, _, _, some (10, false)⟩ hS ?_
        refine tU 21 ⟨some 42, .binOp .eql 39 (.tmp 36) (.tmp 41) 39, _, _, _, some (10, false)⟩ hS ?_
        refine tV 22 ⟨some 43, .pick (.tmp 31) (.const (.bool true)) (.tmp 42), _, _, _, none⟩ hS ?_
        refine tV 23 ⟨some 44, .move (.tmp 43), _, _, _, none⟩ hS ?_
        refine tU 24 ⟨some 45, .move (.tmp 0), _, _, _, some (23, false)⟩ hS ?_
        refine tU 25 ⟨some 46, .move (.tmp 3), _, _, _, some (23, false)⟩ hS ?_
        refine tU 26 ⟨some 47, .indexAddr 33 (.tmp 45) (.tmp 46), _, _, _, some (23, false)⟩ hS ?_
        refine tU 27 ⟨some 48, .fieldAddr 74 (.tmp 47) 1, _, _, _, some (23, false)⟩ hS ?_
        refine tU 28 ⟨some 49, .load 39 (.tmp 48), _, _, _, some (23, false)⟩ hS ?_
        refine tU 29 ⟨some 50, .call { callee := .value (.func 65), args := #[.tmp 49], argTypes := #[39] }, _, _, _, some (23, false)⟩ hS ?_
        refine tU 30 ⟨some 51, .unOp Go.UnOp.not 4 (.tmp 50), _, _, _, some (23, false)⟩ hS ?_
        refine tV 31 ⟨some 52, .pick (.tmp 44) (.const (.bool true)) (.tmp 51), _, _, _, none⟩ hS ?_
        refine tV 32 ⟨some 53, .move (.tmp 52), _, _, _, none⟩ hS ?_
        refine tU 33 ⟨some 54, .move (.tmp 0), _, _, _, some (32, false)⟩ hS ?_
        refine tU 34 ⟨some 55, .move (.tmp 3), _, _, _, some (32, false)⟩ hS ?_
        refine tU 35 ⟨some 56, .indexAddr 33 (.tmp 54) (.tmp 55), _, _, _, some (32, false)⟩ hS ?_
        refine tU 36 ⟨some 57, .fieldAddr 74 (.tmp 56) 2, _, _, _, some (32, false)⟩ hS ?_
        refine tU 37 ⟨some 58, .load 39 (.tmp 57), _, _, _, some (32, false)⟩ hS ?_
        refine tU 38 ⟨some 59, .call { callee := .value (.func 65), args := #[.tmp 58], argTypes := #[39] }, _, _, _, some (32, false)⟩ hS ?_
        refine tU 39 ⟨some 60, .unOp Go.UnOp.not 4 (.tmp 59), _, _, _, some (32, false)⟩ hS ?_
        refine tV 40 ⟨some 61, .pick (.tmp 53) (.const (.bool true)) (.tmp 60), _, _, _, none⟩ hS ?_
        refine wpAnyH_done (by kernel_rfl) ?_ _
        all_goals
          clear hS hE
          have hE := hO.tail
          clear hO
          go_wp2
          refine bodyPost_ret (results_tmp rfl _ _ _) rfl ?_
          exact ⟨_, rfl, .mk false hE (iff_of_false (by decide) (fun h => by have := (Hst.out.2 h).1; rw [Hb.out] at this; cases this))⟩
      rw [hpe] at Hg
      cases eq
      case' true =>
        have Hb := SL.hid (show g = false by rw [Hg.out]; simp)
        have hO := hE.drew
        refine wp_region_held_drew (S := (fun w' => ((Instr.loadAt 9 (.pointer (some ⟨b, off + k * 7, none⟩))).run Tryd.prog w' = .ok (.string ⟨xp.toArray⟩) w') ∧ ((Instr.loadAt 39 (.pointer (some ⟨b, off + k * 7 + 1, none⟩))).run Tryd.prog w' = .ok (.agg #[.bool qt, .bool qd, .string ⟨qb.toArray⟩]) w') ∧ ((Instr.loadAt 39 (.pointer (some ⟨b, off + k * 7 + 4, none⟩))).run Tryd.prog w' = .ok (.agg #[.bool ut, .bool ud, .string ⟨ub.toArray⟩]) w'))) (by kernel_rfl) ⟨(f0.out _ (hO.suf sfx)).2.1, (f0.out _ (hO.suf sfx)).2.2.1, (f0.out _ (hO.suf sfx)).2.2.2⟩ (fun hS => ?_)
        refine tV 0 ⟨some 21, .move (.tmp 5), _, _, _, none⟩ hS ?_
        refine tV 1 ⟨some 22, .binOp .neq 44 (.tmp 21) (.const (.int .i64 0)) 44, _, _, _, none⟩ hS ?_
        refine tV 2 ⟨some 23, .move (.tmp 22), _, _, _, none⟩ hS ?_
        refine tV 3 ⟨some 24, .move (.tmp 0), _, _, _, some (2, false)⟩ hS ?_
        refine tV 4 ⟨some 25, .move (.tmp 3), _, _, _, some (2, false)⟩ hS ?_
        refine tV 5 ⟨some 26, .indexAddr 33 (.tmp 24) (.tmp 25), _, _, _, some (2, false)⟩ hS ?_
        refine tV 6 ⟨some 27, .fieldAddr 74 (.tmp 26) 0, _, _, _, some (2, false)⟩ hS ?_
        refine tL 7 ⟨some 28, .load 9 (.tmp 27), _, _, _, some (2, false)⟩ hS ?_
        refine tV 8 ⟨some 29, .binOp .eql 9 (.tmp 28) (.const (.string { data := #[] })) 9, _, _, _, some (2, false)⟩ hS ?_
        refine tV 9 ⟨some 30, .pick (.tmp 23) (.const (.bool true)) (.tmp 29), _, _, _, none⟩ hS ?_
        refine tV 10 ⟨some 31, .move (.tmp 30), _, _, _, none⟩ hS ?_
        refine tV 11 ⟨some 32, .move (.tmp 0), _, _, _, some (10, false)⟩ hS ?_
        refine tV 12 ⟨some 33, .move (.tmp 3), _, _, _, some (10, false)⟩ hS ?_
        refine tV 13 ⟨some 34, .indexAddr 33 (.tmp 32) (.tmp 33), _, _, _, some (10, false)⟩ hS ?_
        refine tV 14 ⟨some 35, .fieldAddr 74 (.tmp 34) 1, _, _, _, some (10, false)⟩ hS ?_
        refine tL 15 ⟨some 36, .load 39 (.tmp 35), _, _, _, some (10, false)⟩ hS ?_
        refine tV 16 ⟨some 37, .move (.tmp 0), _, _, _, some (10, false)⟩ hS ?_
        refine tV 17 ⟨some 38, .move (.tmp 3), _, _, _, some (10, false)⟩ hS ?_
        refine tV 18 ⟨some 39, .indexAddr 33 (.tmp 37) (.tmp 38), _, _, _, some (10, false)⟩ hS ?_
        refine tV 19 ⟨some 40, .fieldAddr 74 (.tmp 39) 2, _, _, _, some (10, false)⟩ hS ?_
        refine tL 20 ⟨some 41, .load 39 (.tmp 40), _, _, _, some (10, false)⟩ hS ?_
        refine tV 21 ⟨some 42, .binOp .eql 39 (.tmp 36) (.tmp 41) 39, _, _, _, some (10, false)⟩ hS ?_
        refine tV 22 ⟨some 43, .pick (.tmp 31) (.const (.bool true)) (.tmp 42), _, _, _, none⟩ hS ?_
        refine tV 23 ⟨some 44, .move (.tmp 43), _, _, _, none⟩ hS ?_
        refine tU 24 ⟨some 45, .move (.tmp 0), _, _, _, some (23, false)⟩ hS ?_
        refine tU 25 ⟨some 46, .move (.tmp 3), _, _, _, some (23, false)⟩ hS ?_
        refine tU 26 ⟨some 47, .indexAddr 33 (.tmp 45) (.tmp 46), _, _, _, some (23, false)⟩ hS ?_
        refine tU 27 ⟨some 48, .fieldAddr 74 (.tmp 47) 1, _, _, _, some (23, false)⟩ hS ?_
        refine tU 28 ⟨some 49, .load 39 (.tmp 48), _, _, _, some (23, false)⟩ hS ?_
        refine tU 29 ⟨some 50, .call { callee := .value (.func 65), args := #[.tmp 49], argTypes := #[39] }, _, _, _, some (23, false)⟩ hS ?_
        refine tU 30 ⟨some 51, .unOp Go.UnOp.not 4 (.tmp 50), _, _, _, some (23, false)⟩ hS ?_
        refine tV 31 ⟨some 52, .pick (.tmp 44) (.const (.bool true)) (.tmp 51), _, _, _, none⟩ hS ?_
        refine tV 32 ⟨some 53, .move (.tmp 52), _, _, _, none⟩ hS ?_
        refine tU 33 ⟨some 54, .move (.tmp 0), _, _, _, some (32, false)⟩ hS ?_
        refine tU 34 ⟨some 55, .move (.tmp 3), _, _, _, some (32, false)⟩ hS ?_
        refine tU 35 ⟨some 56, .indexAddr 33 (.tmp 54) (.tmp 55), _, _, _, some (32, false)⟩ hS ?_
        refine tU 36 ⟨some 57, .fieldAddr 74 (.tmp 56) 2, _, _, _, some (32, false)⟩ hS ?_
        refine tU 37 ⟨some 58, .load 39 (.tmp 57), _, _, _, some (32, false)⟩ hS ?_
        refine tU 38 ⟨some 59, .call { callee := .value (.func 65), args := #[.tmp 58], argTypes := #[39] }, _, _, _, some (32, false)⟩ hS ?_
        refine tU 39 ⟨some 60, .unOp Go.UnOp.not 4 (.tmp 59), _, _, _, some (32, false)⟩ hS ?_
        refine tV 40 ⟨some 61, .pick (.tmp 53) (.const (.bool true)) (.tmp 60), _, _, _, none⟩ hS ?_
        refine wpAnyH_done (by kernel_rfl) ?_ _
        all_goals
          clear hS hE
          have hE := hO.tail
          clear hO
          go_wp2
          refine bodyPost_ret (results_tmp rfl _ _ _) rfl ?_
          exact ⟨_, rfl, .mk false hE (iff_of_false (by decide) (fun h => by have := (Hst.out.2 h).1; rw [Hb.out] at this; cases this))⟩
      cases m1
      case' false =>
        have Hb := SL.hid (show g = false by rw [Hg.out]; simp)
        have hO := hE.drew
        refine wp_region_held_drew (S := (fun w' => ((Instr.loadAt 9 (.pointer (some ⟨b, off + k * 7, none⟩))).run Tryd.prog w' = .ok (.string ⟨xp.toArray⟩) w') ∧ ((Instr.loadAt 39 (.pointer (some ⟨b, off + k * 7 + 1, none⟩))).run Tryd.prog w' = .ok (.agg #[.bool qt, .bool qd, .string ⟨qb.toArray⟩]) w') ∧ ((Instr.loadAt 39 (.pointer (some ⟨b, off + k * 7 + 4, none⟩))).run Tryd.prog w' = .ok (.agg #[.bool ut, .bool ud, .string ⟨ub.toArray⟩]) w'))) (by kernel_rfl) ⟨(f0.out _ (hO.suf sfx)).2.1, (f0.out _ (hO.suf sfx)).2.2.1, (f0.out _ (hO.suf sfx)).2.2.2⟩ (fun hS => ?_)
        refine tV 0 ⟨some 21, .move (.tmp 5), _, _, _, none⟩ hS ?_
        refine tV 1 ⟨some 22, .binOp .neq 44 (.tmp 21) (.const (.int .i64 0)) 44, _, _, _, none⟩ hS ?_
        refine tV 2 ⟨some 23, .move (.tmp 22), _, _, _, none⟩ hS ?_
        refine tV 3 ⟨some 24, .move (.tmp 0), _, _, _, some (2, false)⟩ hS ?_
        refine tV 4 ⟨some 25, .move (.tmp 3), _, _, _, some (2, false)⟩ hS ?_
        refine tV 5 ⟨some 26, .indexAddr 33 (.tmp 24) (.tmp 25), _, _, _, some (2, false)⟩ hS ?_
        refine tV 6 ⟨some 27, .fieldAddr 74 (.tmp 26) 0, _, _, _, some (2, false)⟩ hS ?_
        refine tL 7 ⟨some 28, .load 9 (.tmp 27), _, _, _, some (2, false)⟩ hS ?_
        refine tV 8 ⟨some 29, .binOp .eql 9 (.tmp 28) (.const (.string { data := #[] })) 9, _, _, _, some (2, false)⟩ hS ?_
        refine tV 9 ⟨some 30, .pick (.tmp 23) (.const (.bool true)) (.tmp 29), _, _, _, none⟩ hS ?_
        refine tV 10 ⟨some 31, .move (.tmp 30), _, _, _, none⟩ hS ?_
        refine tV 11 ⟨some 32, .move (.tmp 0), _, _, _, some (10, false)⟩ hS ?_
        refine tV 12 ⟨some 33, .move (.tmp 3), _, _, _, some (10, false)⟩ hS ?_
        refine tV 13 ⟨some 34, .indexAddr 33 (.tmp 32) (.tmp 33), _, _, _, some (10, false)⟩ hS ?_
        refine tV 14 ⟨some 35, .fieldAddr 74 (.tmp 34) 1, _, _, _, some (10, false)⟩ hS ?_
        refine tL 15 ⟨some 36, .load 39 (.tmp 35), _, _, _, some (10, false)⟩ hS ?_
        refine tV 16 ⟨some 37, .move (.tmp 0), _, _, _, some (10, false)⟩ hS ?_
        refine tV 17 ⟨some 38, .move (.tmp 3), _, _, _, some (10, false)⟩ hS ?_
        refine tV 18 ⟨some 39, .indexAddr 33 (.tmp 37) (.tmp 38), _, _, _, some (10, false)⟩ hS ?_
        refine tV 19 ⟨some 40, .fieldAddr 74 (.tmp 39) 2, _, _, _, some (10, false)⟩ hS ?_
        refine tL 20 ⟨some 41, .load 39 (.tmp 40), _, _, _, some (10, false)⟩ hS ?_
        refine tV 21 ⟨some 42, .binOp .eql 39 (.tmp 36) (.tmp 41) 39, _, _, _, some (10, false)⟩ hS ?_
        refine tV 22 ⟨some 43, .pick (.tmp 31) (.const (.bool true)) (.tmp 42), _, _, _, none⟩ hS ?_
        refine tV 23 ⟨some 44, .move (.tmp 43), _, _, _, none⟩ hS ?_
        refine tV 24 ⟨some 45, .move (.tmp 0), _, _, _, some (23, false)⟩ hS ?_
        refine tV 25 ⟨some 46, .move (.tmp 3), _, _, _, some (23, false)⟩ hS ?_
        refine tV 26 ⟨some 47, .indexAddr 33 (.tmp 45) (.tmp 46), _, _, _, some (23, false)⟩ hS ?_
        refine tV 27 ⟨some 48, .fieldAddr 74 (.tmp 47) 1, _, _, _, some (23, false)⟩ hS ?_
        refine tL 28 ⟨some 49, .load 39 (.tmp 48), _, _, _, some (23, false)⟩ hS ?_
        refine wpAnyH_ready (rs := [29]) (by kernel_rfl) (by simp) ?_
        refine (AllReadyH.cons (o := ⟨some 50, .call { callee := .value (.func 65), args := #[.tmp 49], argTypes := #[39] }, _, _, _, some (23, false)⟩) rfl (fun K hK => ?_) AllReadyH.nil)
        (go_simp; refine (HA.out _ _ hO).mono ?_; clear hO; rintro e w5 ⟨v, h1, h2, hO⟩; cases h1; cases h2)
        refine hK.out _ _ ⟨(f0.out _ (hO.suf sfx)).2.1, (f0.out _ (hO.suf sfx)).2.2.1, (f0.out _ (hO.suf sfx)).2.2.2⟩ (fun hS => ?_)
        clear hK K
        try simp only [Act.put, sb, s0, sz]
        refine tV 30 ⟨some 51, .unOp Go.UnOp.not 4 (.tmp 50), _, _, _, some (23, false)⟩ hS ?_
        refine tV 31 ⟨some 52, .pick (.tmp 44) (.const (.bool true)) (.tmp 51), _, _, _, none⟩ hS ?_
        refine tV 32 ⟨some 53, .move (.tmp 52), _, _, _, none⟩ hS ?_
        refine tU 33 ⟨some 54, .move (.tmp 0), _, _, _, some (32, false)⟩ hS ?_
        refine tU 34 ⟨some 55, .move (.tmp 3), _, _, _, some (32, false)⟩ hS ?_
        refine tU 35 ⟨some 56, .indexAddr 33 (.tmp 54) (.tmp 55), _, _, _, some (32, false)⟩ hS ?_
        refine tU 36 ⟨some 57, .fieldAddr 74 (.tmp 56) 2, _, _, _, some (32, false)⟩ hS ?_
        refine tU 37 ⟨some 58, .load 39 (.tmp 57), _, _, _, some (32, false)⟩ hS ?_
        refine tU 38 ⟨some 59, .call { callee := .value (.func 65), args := #[.tmp 58], argTypes := #[39] }, _, _, _, some (32, false)⟩ hS ?_
        refine tU 39 ⟨some 60, .unOp Go.UnOp.not 4 (.tmp 59), _, _, _, some (32, false)⟩ hS ?_
        refine tV 40 ⟨some 61, .pick (.tmp 53) (.const (.bool true)) (.tmp 60), _, _, _, none⟩ hS ?_
        refine wpAnyH_done (by kernel_rfl) ?_ _
        all_goals
          clear hS hE
          have hE := hO.tail
          clear hO
          go_wp2
          refine bodyPost_ret (results_tmp rfl _ _ _) rfl ?_
          exact ⟨_, rfl, .mk false hE (iff_of_false (by decide) (fun h => by have := (Hst.out.2 h).1; rw [Hb.out] at this; cases this))⟩
      cases m2
      case' false =>
        have Hb := SL.hid (show g = false by rw [Hg.out]; simp)
        have hO := hE.drew
        refine wp_region_held_drew (S := (fun w' => ((Instr.loadAt 9 (.pointer (some ⟨b, off + k * 7, none⟩))).run Tryd.prog w' = .ok (.string ⟨xp.toArray⟩) w') ∧ ((Instr.loadAt 39 (.pointer (some ⟨b, off + k * 7 + 1, none⟩))).run Tryd.prog w' = .ok (.agg #[.bool qt, .bool qd, .string ⟨qb.toArray⟩]) w') ∧ ((Instr.loadAt 39 (.pointer (some ⟨b, off + k * 7 + 4, none⟩))).run Tryd.prog w' = .ok (.agg #[.bool ut, .bool ud, .string ⟨ub.toArray⟩]) w'))) (by kernel_rfl) ⟨(f0.out _ (hO.suf sfx)).2.1, (f0.out _ (hO.suf sfx)).2.2.1, (f0.out _ (hO.suf sfx)).2.2.2⟩ (fun hS => ?_)
        refine tV 0 ⟨some 21, .move (.tmp 5), _, _, _, none⟩ hS ?_
        refine tV 1 ⟨some 22, .binOp .neq 44 (.tmp 21) (.const (.int .i64 0)) 44, _, _, _, none⟩ hS ?_
        refine tV 2 ⟨some 23, .move (.tmp 22), _, _, _, none⟩ hS ?_
        refine tV 3 ⟨some 24, .move (.tmp 0), _, _, _, some (2, false)⟩ hS ?_
        refine tV 4 ⟨some 25, .move (.tmp 3), _, _, _, some (2, false)⟩ hS ?_
        refine tV 5 ⟨some 26, .indexAddr 33 (.tmp 24) (.tmp 25), _, _, _, some (2, false)⟩ hS ?_
        refine tV 6 ⟨some 27, .fieldAddr 74 (.tmp 26) 0, _, _, _, some (2, false)⟩ hS ?_
        refine tL 7 ⟨some 28, .load 9 (.tmp 27), _, _, _, some (2, false)⟩ hS ?_
        refine tV 8 ⟨some 29, .binOp .eql 9 (.tmp 28) (.const (.string { data := #[] })) 9, _, _, _, some (2, false)⟩ hS ?_
        refine tV 9 ⟨some 30, .pick (.tmp 23) (.const (.bool true)) (.tmp 29), _, _, _, none⟩ hS ?_
        refine tV 10 ⟨some 31, .move (.tmp 30), _, _, _, none⟩ hS ?_
        refine tV 11 ⟨some 32, .move (.tmp 0), _, _, _, some (10, false)⟩ hS ?_
        refine tV 12 ⟨some 33, .move (.tmp 3), _, _, _, some (10, false)⟩ hS ?_
        refine tV 13 ⟨some 34, .indexAddr 33 (.tmp 32) (.tmp 33), _, _, _, some (10, false)⟩ hS ?_
        refine tV 14 ⟨some 35, .fieldAddr 74 (.tmp 34) 1, _, _, _, some (10, false)⟩ hS ?_
        refine tL 15 ⟨some 36, .load 39 (.tmp 35), _, _, _, some (10, false)⟩ hS ?_
        refine tV 16 ⟨some 37, .move (.tmp 0), _, _, _, some (10, false)⟩ hS ?_
        refine tV 17 ⟨some 38, .move (.tmp 3), _, _, _, some (10, false)⟩ hS ?_
        refine tV 18 ⟨some 39, .indexAddr 33 (.tmp 37) (.tmp 38), _, _, _, some (10, false)⟩ hS ?_
        refine tV 19 ⟨some 40, .fieldAddr 74 (.tmp 39) 2, _, _, _, some (10, false)⟩ hS ?_
        refine tL 20 ⟨some 41, .load 39 (.tmp 40), _, _, _, some (10, false)⟩ hS ?_
        refine tV 21 ⟨some 42, .binOp .eql 39 (.tmp 36) (.tmp 41) 39, _, _, _, some (10, false)⟩ hS ?_
        refine tV 22 ⟨some 43, .pick (.tmp 31) (.const (.bool true)) (.tmp 42), _, _, _, none⟩ hS ?_
        refine tV 23 ⟨some 44, .move (.tmp 43), _, _, _, none⟩ hS ?_
        refine tV 24 ⟨some 45, .move (.tmp 0), _, _, _, some (23, false)⟩ hS ?_
        refine tV 25 ⟨some 46, .move (.tmp 3), _, _, _, some (23, false)⟩ hS ?_
        refine tV 26 ⟨some 47, .indexAddr 33 (.tmp 45) (.tmp 46), _, _, _, some (23, false)⟩ hS ?_
        refine tV 27 ⟨some 48, .fieldAddr 74 (.tmp 47) 1, _, _, _, some (23, false)⟩ hS ?_
        refine tL 28 ⟨some 49, .load 39 (.tmp 48), _, _, _, some (23, false)⟩ hS ?_
        refine wpAnyH_ready (rs := [29]) (by kernel_rfl) (by simp) ?_
        refine (AllReadyH.cons (o := ⟨some 50, .call { callee := .value (.func 65), args := #[.tmp 49], argTypes := #[39] }, _, _, _, some (23, false)⟩) rfl (fun K hK => ?_) AllReadyH.nil)
        (go_simp; refine (HA.out _ _ hO).mono ?_; clear hO; rintro e w5 ⟨v, h1, h2, hO⟩; cases h1; cases h2)
        refine hK.out _ _ ⟨(f0.out _ (hO.suf sfx)).2.1, (f0.out _ (hO.suf sfx)).2.2.1, (f0.out _ (hO.suf sfx)).2.2.2⟩ (fun hS => ?_)
        clear hK K
        try simp only [Act.put, sb, s0, sz]
        refine tV 30 ⟨some 51, .unOp Go.UnOp.not 4 (.tmp 50), _, _, _, some (23, false)⟩ hS ?_
        refine tV 31 ⟨some 52, .pick (.tmp 44) (.const (.bool true)) (.tmp 51), _, _, _, none⟩ hS ?_
        refine tV 32 ⟨some 53, .move (.tmp 52), _, _, _, none⟩ hS ?_
        refine tV 33 ⟨some 54, .move (.tmp 0), _, _, _, some (32, false)⟩ hS ?_
        refine tV 34 ⟨some 55, .move (.tmp 3), _, _, _, some (32, false)⟩ hS ?_
        refine tV 35 ⟨some 56, .indexAddr 33 (.tmp 54) (.tmp 55), _, _, _, some (32, false)⟩ hS ?_
        refine tV 36 ⟨some 57, .fieldAddr 74 (.tmp 56) 2, _, _, _, some (32, false)⟩ hS ?_
        refine tL 37 ⟨some 58, .load 39 (.tmp 57), _, _, _, some (32, false)⟩ hS ?_
        refine wpAnyH_ready (rs := [38]) (by kernel_rfl) (by simp) ?_
        refine (AllReadyH.cons (o := ⟨some 59, .call { callee := .value (.func 65), args := #[.tmp 58], argTypes := #[39] }, _, _, _, some (32, false)⟩) rfl (fun K hK => ?_) AllReadyH.nil)
        (go_simp; refine (HB.out _ _ hO).mono ?_; clear hO; rintro e w5 ⟨v, h1, h2, hO⟩; cases h1; cases h2)
        refine hK.out _ _ ⟨(f0.out _ (hO.suf sfx)).2.1, (f0.out _ (hO.suf sfx)).2.2.1, (f0.out _ (hO.suf sfx)).2.2.2⟩ (fun hS => ?_)
        clear hK K
        try simp only [Act.put, sb, s0, sz]
        refine tV 39 ⟨some 60, .unOp Go.UnOp.not 4 (.tmp 59), _, _, _, some (32, false)⟩ hS ?_
        refine tV 40 ⟨some 61, .pick (.tmp 53) (.const (.bool true)) (.tmp 60), _, _, _, none⟩ hS ?_
        refine wpAnyH_done (by kernel_rfl) ?_ _
        all_goals
          clear hS hE
          have hE := hO.tail
          clear hO
          go_wp2
          refine bodyPost_ret (results_tmp rfl _ _ _) rfl ?_
          exact ⟨_, rfl, .mk false hE (iff_of_false (by decide) (fun h => by have := (Hst.out.2 h).1; rw [Hb.out] at this; cases this))⟩
      have Hb := SL.hid (show g = true by rw [Hg.out]; simp)
      clear Hg
      have hO := hE.drew
      refine wp_region_held_drew (S := (fun w' => ((Instr.loadAt 9 (.pointer (some ⟨b, off + k * 7, none⟩))).run Tryd.prog w' = .ok (.string ⟨xp.toArray⟩) w') ∧ ((Instr.loadAt 39 (.pointer (some ⟨b, off + k * 7 + 1, none⟩))).run Tryd.prog w' = .ok (.agg #[.bool qt, .bool qd, .string ⟨qb.toArray⟩]) w') ∧ ((Instr.loadAt 39 (.pointer (some ⟨b, off + k * 7 + 4, none⟩))).run Tryd.prog w' = .ok (.agg #[.bool ut, .bool ud, .string ⟨ub.toArray⟩]) w'))) (by kernel_rfl) ⟨(f0.out _ (hO.suf sfx)).2.1, (f0.out _ (hO.suf sfx)).2.2.1, (f0.out _ (hO.suf sfx)).2.2.2⟩ (fun hS => ?_)
      refine tV 0 ⟨some 21, .move (.tmp 5), _, _, _, none⟩ hS ?_
      refine tV 1 ⟨some 22, .binOp .neq 44 (.tmp 21) (.const (.int .i64 0)) 44, _, _, _, none⟩ hS ?_
      refine tV 2 ⟨some 23, .move (.tmp 22), _, _, _, none⟩ hS ?_
      refine tV 3 ⟨some 24, .move (.tmp 0), _, _, _, some (2, false)⟩ hS ?_
      refine tV 4 ⟨some 25, .move (.tmp 3), _, _, _, some (2, false)⟩ hS ?_
      refine tV 5 ⟨some 26, .indexAddr 33 (.tmp 24) (.tmp 25), _, _, _, some (2, false)⟩ hS ?_
      refine tV 6 ⟨some 27, .fieldAddr 74 (.tmp 26) 0, _, _, _, some (2, false)⟩ hS ?_
      refine tL 7 ⟨some 28, .load 9 (.tmp 27), _, _, _, some (2, false)⟩ hS ?_
      refine tV 8 ⟨some 29, .binOp .eql 9 (.tmp 28) (.const (.string { data := #[] })) 9, _, _, _, some (2, false)⟩ hS ?_
      refine tV 9 ⟨some 30, .pick (.tmp 23) (.const (.bool true)) (.tmp 29), _, _, _, none⟩ hS ?_
      refine tV 10 ⟨some 31, .move (.tmp 30), _, _, _, none⟩ hS ?_
      refine tV 11 ⟨some 32, .move (.tmp 0), _, _, _, some (10, false)⟩ hS ?_
      refine tV 12 ⟨some 33, .move (.tmp 3), _, _, _, some (10, false)⟩ hS ?_
      refine tV 13 ⟨some 34, .indexAddr 33 (.tmp 32) (.tmp 33), _, _, _, some (10, false)⟩ hS ?_
      refine tV 14 ⟨some 35, .fieldAddr 74 (.tmp 34) 1, _, _, _, some (10, false)⟩ hS ?_
      refine tL 15 ⟨some 36, .load 39 (.tmp 35), _, _, _, some (10, false)⟩ hS ?_
      refine tV 16 ⟨some 37, .move (.tmp 0), _, _, _, some (10, false)⟩ hS ?_
      refine tV 17 ⟨some 38, .move (.tmp 3), _, _, _, some (10, false)⟩ hS ?_
      refine tV 18 ⟨some 39, .indexAddr 33 (.tmp 37) (.tmp 38), _, _, _, some (10, false)⟩ hS ?_
      refine tV 19 ⟨some 40, .fieldAddr 74 (.tmp 39) 2, _, _, _, some (10, false)⟩ hS ?_
      refine tL 20 ⟨some 41, .load 39 (.tmp 40), _, _, _, some (10, false)⟩ hS ?_
      refine tV 21 ⟨some 42, .binOp .eql 39 (.tmp 36) (.tmp 41) 39, _, _, _, some (10, false)⟩ hS ?_
      refine tV 22 ⟨some 43, .pick (.tmp 31) (.const (.bool true)) (.tmp 42), _, _, _, none⟩ hS ?_
      refine tV 23 ⟨some 44, .move (.tmp 43), _, _, _, none⟩ hS ?_
      refine tV 24 ⟨some 45, .move (.tmp 0), _, _, _, some (23, false)⟩ hS ?_
      refine tV 25 ⟨some 46, .move (.tmp 3), _, _, _, some (23, false)⟩ hS ?_
      refine tV 26 ⟨some 47, .indexAddr 33 (.tmp 45) (.tmp 46), _, _, _, some (23, false)⟩ hS ?_
      refine tV 27 ⟨some 48, .fieldAddr 74 (.tmp 47) 1, _, _, _, some (23, false)⟩ hS ?_
      refine tL 28 ⟨some 49, .load 39 (.tmp 48), _, _, _, some (23, false)⟩ hS ?_
      refine wpAnyH_ready (rs := [29]) (by kernel_rfl) (by simp) ?_
      refine (AllReadyH.cons (o := ⟨some 50, .call { callee := .value (.func 65), args := #[.tmp 49], argTypes := #[39] }, _, _, _, some (23, false)⟩) rfl (fun K hK => ?_) AllReadyH.nil)
      (go_simp; refine (HA.out _ _ hO).mono ?_; clear hO; rintro e w5 ⟨v, h1, h2, hO⟩; cases h1; cases h2)
      refine hK.out _ _ ⟨(f0.out _ (hO.suf sfx)).2.1, (f0.out _ (hO.suf sfx)).2.2.1, (f0.out _ (hO.suf sfx)).2.2.2⟩ (fun hS => ?_)
      clear hK K
      try simp only [Act.put, sb, s0, sz]
      refine tV 30 ⟨some 51, .unOp Go.UnOp.not 4 (.tmp 50), _, _, _, some (23, false)⟩ hS ?_
      refine tV 31 ⟨some 52, .pick (.tmp 44) (.const (.bool true)) (.tmp 51), _, _, _, none⟩ hS ?_
      refine tV 32 ⟨some 53, .move (.tmp 52), _, _, _, none⟩ hS ?_
      refine tV 33 ⟨some 54, .move (.tmp 0), _, _, _, some (32, false)⟩ hS ?_
      refine tV 34 ⟨some 55, .move (.tmp 3), _, _, _, some (32, false)⟩ hS ?_
      refine tV 35 ⟨some 56, .indexAddr 33 (.tmp 54) (.tmp 55), _, _, _, some (32, false)⟩ hS ?_
      refine tV 36 ⟨some 57, .fieldAddr 74 (.tmp 56) 2, _, _, _, some (32, false)⟩ hS ?_
      refine tL 37 ⟨some 58, .load 39 (.tmp 57), _, _, _, some (32, false)⟩ hS ?_
      refine wpAnyH_ready (rs := [38]) (by kernel_rfl) (by simp) ?_
      refine (AllReadyH.cons (o := ⟨some 59, .call { callee := .value (.func 65), args := #[.tmp 58], argTypes := #[39] }, _, _, _, some (32, false)⟩) rfl (fun K hK => ?_) AllReadyH.nil)
      (go_simp; refine (HB.out _ _ hO).mono ?_; clear hO; rintro e w5 ⟨v, h1, h2, hO⟩; cases h1; cases h2)
      refine hK.out _ _ ⟨(f0.out _ (hO.suf sfx)).2.1, (f0.out _ (hO.suf sfx)).2.2.1, (f0.out _ (hO.suf sfx)).2.2.2⟩ (fun hS => ?_)
      clear hK K
      try simp only [Act.put, sb, s0, sz]
      refine tV 39 ⟨some 60, .unOp Go.UnOp.not 4 (.tmp 59), _, _, _, some (32, false)⟩ hS ?_
      refine tV 40 ⟨some 61, .pick (.tmp 53) (.const (.bool true)) (.tmp 60), _, _, _, none⟩ hS ?_
      refine wpAnyH_done (by kernel_rfl) ?_ _
      all_goals
        clear hS hE
        have hE := hO.tail
        clear hO
        cases k with
        | zero =>
          go_wp2
          refine wp_region_held_drew (S := (fun _ => True)) (by kernel_rfl) trivial (fun hS => ?_)
          refine tV 0 ⟨some 62, .move (.tmp 3), _, _, _, none⟩ hS ?_
          refine tV 1 ⟨some 63, .binOp .gtr 3 (.tmp 62) (.const (.int .i64 0)) 3, _, _, _, none⟩ hS ?_
          refine tV 2 ⟨some 64, .move (.tmp 63), _, _, _, none⟩ hS ?_
          refine tU 3 ⟨some 65, .move (.tmp 0), _, _, _, some (2, true)⟩ hS ?_
          refine tU 4 ⟨some 66, .move (.tmp 3), _, _, _, some (2, true)⟩ hS ?_
          refine tU 5 ⟨some 67, .binOp .sub 3 (.tmp 66) (.const (.int .i64 1)) 3, _, _, _, some (2, true)⟩ hS ?_
          refine tU 6 ⟨some 68, .indexAddr 33 (.tmp 65) (.tmp 67), _, _, _, some (2, true)⟩ hS ?_
          refine tU 7 ⟨some 69, .fieldAddr 74 (.tmp 68) 0, _, _, _, some (2, true)⟩ hS ?_
          refine tU 8 ⟨some 70, .load 9 (.tmp 69), _, _, _, some (2, true)⟩ hS ?_
          refine tU 9 ⟨some 71, .move (.tmp 0), _, _, _, some (2, true)⟩ hS ?_
          refine tU 10 ⟨some 72, .move (.tmp 3), _, _, _, some (2, true)⟩ hS ?_
          refine tU 11 ⟨some 73, .indexAddr 33 (.tmp 71) (.tmp 72), _, _, _, some (2, true)⟩ hS ?_
          refine tU 12 ⟨some 74, .fieldAddr 74 (.tmp 73) 0, _, _, _, some (2, true)⟩ hS ?_
          refine tU 13 ⟨some 75, .load 9 (.tmp 74), _, _, _, some (2, true)⟩ hS ?_
          refine tU 14 ⟨some 76, .call { callee := .value (.func 18), args := #[.tmp 70, .tmp 75], argTypes := #[9, 9] }, _, _, _, some (2, true)⟩ hS ?_
          refine tU 15 ⟨some 77, .binOp .neq 3 (.tmp 76) (.const (.int .i64 (-1))) 3, _, _, _, some (2, true)⟩ hS ?_
          refine tV 16 ⟨some 78, .pick (.tmp 64) (.tmp 77) (.const (.bool false)), _, _, _, none⟩ hS ?_
          refine wpAnyH_done (by kernel_rfl) ?_ _
          all_goals
            clear hS
            replace hE := hE.drew
            go_wp2
            go_roundw
            case rel => exact ⟨1, hlt, by first | rfl | simp, Hst.out.1.2 ⟨Hb.out, fun y hy => by simp at hy⟩, hE⟩
            case measure => simp [intOf] <;> omega
        | succ j =>
          have hjl : j < es.length := by omega
          have f1 := SL.hid (show ∀ w, Ent l w → _ from fun w h => load_rc (hk w h) hjl)
          have Hla := SL.hid (last_take hlt)
          have hyl := Hp.out es[j] (List.getElem_mem hjl)
          generalize es[j] = y at *
          have HO2 := SL.hid (fun (L : List HProp) (w : World) (h : Ent L w) => HO.out L w y.path hyl h)
          have hw1 : IntKind.i64.wrap (j : Int) = j := wrap_id (by omega)
          have h0j : (0 : Int) < (j : Int) + 1 := by omega
          have h1j : (0 : Int) ≤ (j : Int) + 1 := by omega
          have h2j : (j : Int) + 1 < (es.length : Int) := by omega
          rcases ord_cases y.path xp with ⟨ho, h1⟩ | ⟨ho, h1, h2⟩ | ⟨ho, h1, h2⟩
          · have Hls := SL.hid h1
            rw [ho] at HO2
            clear ho h1 hyl
            go_wp2
            have hO := hE.drew
            refine wp_region_held_drew (S := (fun w' => ((Instr.loadAt 9 (.pointer (some ⟨b, off + j * 7, none⟩))).run Tryd.prog w' = .ok (.string ⟨y.path.toArray⟩) w') ∧ ((Instr.loadAt 9 (.pointer (some ⟨b, off + (j + 1) * 7, none⟩))).run Tryd.prog w' = .ok (.string ⟨xp.toArray⟩) w'))) (by kernel_rfl) ⟨(f1.out _ (hO.suf sfx)).2.1, (f0.out _ (hO.suf sfx)).2.1⟩ (fun hS => ?_)
            refine tV 0 ⟨some 62, .move (.tmp 3), _, _, _, none⟩ hS ?_
            refine tV 1 ⟨some 63, .binOp .gtr 3 (.tmp 62) (.const (.int .i64 0)) 3, _, _, _, none⟩ hS ?_
            refine tV 2 ⟨some 64, .move (.tmp 63), _, _, _, none⟩ hS ?_
            refine tV 3 ⟨some 65, .move (.tmp 0), _, _, _, some (2, true)⟩ hS ?_
            refine tV 4 ⟨some 66, .move (.tmp 3), _, _, _, some (2, true)⟩ hS ?_
            refine tV 5 ⟨some 67, .binOp .sub 3 (.tmp 66) (.const (.int .i64 1)) 3, _, _, _, some (2, true)⟩ hS ?_
            refine tV 6 ⟨some 68, .indexAddr 33 (.tmp 65) (.tmp 67), _, _, _, some (2, true)⟩ hS ?_
            refine tV 7 ⟨some 69, .fieldAddr 74 (.tmp 68) 0, _, _, _, some (2, true)⟩ hS ?_
            refine tL 8 ⟨some 70, .load 9 (.tmp 69), _, _, _, some (2, true)⟩ hS ?_
            refine tV 9 ⟨some 71, .move (.tmp 0), _, _, _, some (2, true)⟩ hS ?_
            refine tV 10 ⟨some 72, .move (.tmp 3), _, _, _, some (2, true)⟩ hS ?_
            refine tV 11 ⟨some 73, .indexAddr 33 (.tmp 71) (.tmp 72), _, _, _, some (2, true)⟩ hS ?_
            refine tV 12 ⟨some 74, .fieldAddr 74 (.tmp 73) 0, _, _, _, some (2, true)⟩ hS ?_
            refine tL 13 ⟨some 75, .load 9 (.tmp 74), _, _, _, some (2, true)⟩ hS ?_
            refine wpAnyH_ready (rs := [14]) (by kernel_rfl) (by simp) ?_
            refine (AllReadyH.cons (o := ⟨some 76, .call { callee := .value (.func 18), args := #[.tmp 70, .tmp 75], argTypes := #[9, 9] }, _, _, _, some (2, true)⟩) rfl (fun K hK => ?_) AllReadyH.nil)
            (go_simp; refine (HO2.out _ _ hO).mono ?_; clear hO; rintro e w5 ⟨v, h1, h2, hO⟩; cases h1; cases h2)
            refine hK.out _ _ ⟨(f1.out _ (hO.suf sfx)).2.1, (f0.out _ (hO.suf sfx)).2.1⟩ (fun hS => ?_)
            clear hK K
            try simp only [Act.put, sb, s0, sz]
            refine tV 15 ⟨some 77, .binOp .neq 3 (.tmp 76) (.const (.int .i64 (-1))) 3, _, _, _, some (2, true)⟩ hS ?_
            refine tV 16 ⟨some 78, .pick (.tmp 64) (.tmp 77) (.const (.bool false)), _, _, _, none⟩ hS ?_
            refine wpAnyH_done (by kernel_rfl) ?_ _
            all_goals
              clear hS hE
              have hE := hO
              clear hO
              go_wp2
              go_roundw
              case rel => exact ⟨j + 1 + 1, hlt, by first | rfl | simp, Hst.out.1.2 ⟨Hb.out, fun z hz => by rw [Hla.out] at hz; cases hz; exact Hls.out⟩, hE⟩
              case measure => simp [intOf] <;> omega
          · have Hls := SL.hid h1
            rw [ho] at HO2
            clear ho h1 h2 hyl
            go_wp2
            have hO := hE.drew
            refine wp_region_held_drew (S := (fun w' => ((Instr.loadAt 9 (.pointer (some ⟨b, off + j * 7, none⟩))).run Tryd.prog w' = .ok (.string ⟨y.path.toArray⟩) w') ∧ ((Instr.loadAt 9 (.pointer (some ⟨b, off + (j + 1) * 7, none⟩))).run Tryd.prog w' = .ok (.string ⟨xp.toArray⟩) w'))) (by kernel_rfl) ⟨(f1.out _ (hO.suf sfx)).2.1, (f0.out _ (hO.suf sfx)).2.1⟩ (fun hS => ?_)
            refine tV 0 ⟨some 62, .move (.tmp 3), _, _, _, none⟩ hS ?_
            refine tV 1 ⟨some 63, .binOp .gtr 3 (.tmp 62) (.const (.int .i64 0)) 3, _, _, _, none⟩ hS ?_
            refine tV 2 ⟨some 64, .move (.tmp 63), _, _, _, none⟩ hS ?_
            refine tV 3 ⟨some 65, .move (.tmp 0), _, _, _, some (2, true)⟩ hS ?_
            refine tV 4 ⟨some 66, .move (.tmp 3), _, _, _, some (2, true)⟩ hS ?_
            refine tV 5 ⟨some 67, .binOp .sub 3 (.tmp 66) (.const (.int .i64 1)) 3, _, _, _, some (2, true)⟩ hS ?_
            refine tV 6 ⟨some 68, .indexAddr 33 (.tmp 65) (.tmp 67), _, _, _, some (2, true)⟩ hS ?_
            refine tV 7 ⟨some 69, .fieldAddr 74 (.tmp 68) 0, _, _, _, some (2, true)⟩ hS ?_
            refine tL 8 ⟨some 70, .load 9 (.tmp 69), _, _, _, some (2, true)⟩ hS ?_
            refine tV 9 ⟨some 71, .move (.tmp 0), _, _, _, some (2, true)⟩ hS ?_
            refine tV 10 ⟨some 72, .move (.tmp 3), _, _, _, some (2, true)⟩ hS ?_
            refine tV 11 ⟨some 73, .indexAddr 33 (.tmp 71) (.tmp 72), _, _, _, some (2, true)⟩ hS ?_
            refine tV 12 ⟨some 74, .fieldAddr 74 (.tmp 73) 0, _, _, _, some (2, true)⟩ hS ?_
            refine tL 13 ⟨some 75, .load 9 (.tmp 74), _, _, _, some (2, true)⟩ hS ?_
            refine wpAnyH_ready (rs := [14]) (by kernel_rfl) (by simp) ?_
            refine (AllReadyH.cons (o := ⟨some 76, .call { callee := .value (.func 18), args := #[.tmp 70, .tmp 75], argTypes := #[9, 9] }, _, _, _, some (2, true)⟩) rfl (fun K hK => ?_) AllReadyH.nil)
            (go_simp; refine (HO2.out _ _ hO).mono ?_; clear hO; rintro e w5 ⟨v, h1, h2, hO⟩; cases h1; cases h2)
            refine hK.out _ _ ⟨(f1.out _ (hO.suf sfx)).2.1, (f0.out _ (hO.suf sfx)).2.1⟩ (fun hS => ?_)
            clear hK K
            try simp only [Act.put, sb, s0, sz]
            refine tV 15 ⟨some 77, .binOp .neq 3 (.tmp 76) (.const (.int .i64 (-1))) 3, _, _, _, some (2, true)⟩ hS ?_
            refine tV 16 ⟨some 78, .pick (.tmp 64) (.tmp 77) (.const (.bool false)), _, _, _, none⟩ hS ?_
            refine wpAnyH_done (by kernel_rfl) ?_ _
            all_goals
              clear hS hE
              have hE := hO
              clear hO
              go_wp2
              refine bodyPost_ret (results_tmp rfl _ _ _) rfl ?_
              exact ⟨_, rfl, .mk false hE (iff_of_false (by decide) (fun h => by have := (Hst.out.2 h).2 _ Hla.out; rw [Hls.out] at this; cases this))⟩
          · have Hls := SL.hid h1
            rw [ho] at HO2
            clear ho h1 h2 hyl
            go_wp2
            have hO := hE.drew
            refine wp_region_held_drew (S := (fun w' => ((Instr.loadAt 9 (.pointer (some ⟨b, off + j * 7, none⟩))).run Tryd.prog w' = .ok (.string ⟨y.path.toArray⟩) w') ∧ ((Instr.loadAt 9 (.pointer (some ⟨b, off + (j + 1) * 7, none⟩))).run Tryd.prog w' = .ok (.string ⟨xp.toArray⟩) w'))) (by kernel_rfl) ⟨(f1.out _ (hO.suf sfx)).2.1, (f0.out _ (hO.suf sfx)).2.1⟩ (fun hS => ?_)
            refine tV 0 ⟨some 62, .move (.tmp 3), _, _, _, none⟩ hS ?_
            refine tV 1 ⟨some 63, .binOp .gtr 3 (.tmp 62) (.const (.int .i64 0)) 3, _, _, _, none⟩ hS ?_
            refine tV 2 ⟨some 64, .move (.tmp 63), _, _, _, none⟩ hS ?_
            refine tV 3 ⟨some 65, .move (.tmp 0), _, _, _, some (2, true)⟩ hS ?_
            refine tV 4 ⟨some 66, .move (.tmp 3), _, _, _, some (2, true)⟩ hS ?_
            refine tV 5 ⟨some 67, .binOp .sub 3 (.tmp 66) (.const (.int .i64 1)) 3, _, _, _, some (2, true)⟩ hS ?_
            refine tV 6 ⟨some 68, .indexAddr 33 (.tmp 65) (.tmp 67), _, _, _, some (2, true)⟩ hS ?_
            refine tV 7 ⟨some 69, .fieldAddr 74 (.tmp 68) 0, _, _, _, some (2, true)⟩ hS ?_
            refine tL 8 ⟨some 70, .load 9 (.tmp 69), _, _, _, some (2, true)⟩ hS ?_
            refine tV 9 ⟨some 71, .move (.tmp 0), _, _, _, some (2, true)⟩ hS ?_
            refine tV 10 ⟨some 72, .move (.tmp 3), _, _, _, some (2, true)⟩ hS ?_
            refine tV 11 ⟨some 73, .indexAddr 33 (.tmp 71) (.tmp 72), _, _, _, some (2, true)⟩ hS ?_
            refine tV 12 ⟨some 74, .fieldAddr 74 (.tmp 73) 0, _, _, _, some (2, true)⟩ hS ?_
            refine tL 13 ⟨some 75, .load 9 (.tmp 74), _, _, _, some (2, true)⟩ hS ?_
            refine wpAnyH_ready (rs := [14]) (by kernel_rfl) (by simp) ?_
            refine (AllReadyH.cons (o := ⟨some 76, .call { callee := .value (.func 18), args := #[.tmp 70, .tmp 75], argTypes := #[9, 9] }, _, _, _, some (2, true)⟩) rfl (fun K hK => ?_) AllReadyH.nil)
            (go_simp; refine (HO2.out _ _ hO).mono ?_; clear hO; rintro e w5 ⟨v, h1, h2, hO⟩; cases h1; cases h2)
            refine hK.out _ _ ⟨(f1.out _ (hO.suf sfx)).2.1, (f0.out _ (hO.suf sfx)).2.1⟩ (fun hS => ?_)
            clear hK K
            try simp only [Act.put, sb, s0, sz]
            refine tV 15 ⟨some 77, .binOp .neq 3 (.tmp 76) (.const (.int .i64 (-1))) 3, _, _, _, some (2, true)⟩ hS ?_
            refine tV 16 ⟨some 78, .pick (.tmp 64) (.tmp 77) (.const (.bool false)), _, _, _, none⟩ hS ?_
            refine wpAnyH_done (by kernel_rfl) ?_ _
            all_goals
              clear hS hE
              have hE := hO
              clear hO
              go_wp2
              refine bodyPost_ret (results_tmp rfl _ _ _) rfl ?_
              exact ⟨_, rfl, .mk false hE (iff_of_false (by decide) (fun h => by have := (Hst.out.2 h).2 _ Hla.out; rw [Hls.out] at this; cases this))⟩
    · obtain rfl : k = es.length := by omega
      rw [List.take_length] at hpre
      have R := SL.hid hpre
      clear hpre
      go_wp2
      refine bodyPost_ret (results_tmp rfl _ _ _) rfl ?_
      exact ⟨_, rfl, .mk true hE (iff_of_true rfl R.out)⟩
end Go.Proofs.YtcpgelpajppgdaaDoor
namespace Go.Proofs.YtcpgelpajppgdaaDoor
open Go.RowKit Go.SL

set_option maxRecDepth 100000 in
set_option maxHeartbeats 8000000 in
attribute [-go_sem] Instr.loadAt Go.run_equalIn_agg in
theorem rCompose_any {a b : List Ch} (hna : a.length ≤ 40000) (hnb : b.length ≤ 40000) (hpa : ∀ x ∈ a, x.path.length ≤ 100000) (hpb : ∀ x ∈ b, x.path.length ≤ 100000) {aa ab : Option Addr} {ca cb : Nat} {l : List HProp} {w : World} (hka : Knows l (reads (.slice aa a.length ca) a.length (a.flatMap chC))) (hkb : Knows l (reads (.slice ab b.length cb) b.length (b.flatMap chC))) (hE : Ent l w) :
    Calls Tryd.prog 25 #[.slice aa a.length ca, .slice ab b.length cb] w (Ret (CmPost rowRc (cmpP a b) (cmpE a b) l)) := by
  have HM1 := SL.hid (fun (w : World) (h : Ent l w) => rMay_any (by omega) hpa hka h)
  have HM2 := SL.hid (fun (w : World) (h : Ent l w) => rMay_any (by omega) hpb hkb h)
  unfold cmpP cmpE
  unfold MPost at HM1 HM2
  have hne1 := may_ne (es := a)
  have hne2 := may_ne (es := b)
  generalize mayB a = ma at *
  generalize mayB b = mb at *
  cases ma with
  | false =>
    go_enter Tryd.func25, Tryd.ntmps25
    go_wp2_with (first
      | go_skip
      | (go_at_call 46; refine (HM1.out _ hE).mono ?_; clear hE; rintro e w2 ⟨v, h1, h2, hE⟩; cases h1; cases h2))
    refine bodyPost_ret (results_tmp2 rfl _ _ _) rfl ?_
    exact ⟨_, rfl, none, 0, [], rfl, hE.nil _ _⟩
  | true =>
  cases mb with
  | false =>
    have A1 := SL.hid True.intro
    go_enter Tryd.func25, Tryd.ntmps25
    go_wp2_with (first
      | go_skip
      | (clear A1; go_at_call 46; refine (HM1.out _ hE).mono ?_; clear hE; rintro e w2 ⟨v, h1, h2, hE⟩; cases h1; cases h2)
      | (go_at_call 46; refine (HM2.out _ hE).mono ?_; clear hE; rintro e w2 ⟨v, h1, h2, hE⟩; cases h1; cases h2))
    refine bodyPost_ret (results_tmp2 rfl _ _ _) rfl ?_
    exact ⟨_, rfl, none, 0, [], rfl, hE.nil _ _⟩
  | true =>
  simp only [Bool.and_self, if_true]
  have H1 := SL.hid (fun (w : World) (h : Ent l w) => chg2_any (by omega) hka h)
  have H2 := SL.hid (fun (L : List HProp) (w : World) (hs : l <:+ L) (h : Ent L w) => chg2_any (by omega) (hkb.suf hs) h)
  have H3 := SL.hid (fun (L : List HProp) (w : World) (a1 b1 : Option Addr) (c1 d1 : Nat) h1 h2 (h : Ent L w) => sorted_any (xs := a.map Ch.path) (ys := b.map Ch.path) (ao := a1) (bo := b1) (c := c1) (d := d1) (by simp; omega) (by
    intro x hx
    rcases List.mem_append.1 hx with hx | hx
    · obtain ⟨y, hy, rfl⟩ := List.mem_map.1 hx
      exact hpa y hy
    · obtain ⟨y, hy, rfl⟩ := List.mem_map.1 hx
      exact hpb y hy) h1 h2 h)
  have HFA := SL.hid (fun (p : List UInt8) (L : List HProp) (w : World) hk (h : Ent L w) => rfind_any (es := a) (p := p) (ao := aa) (c := ca) (by omega) hk h)
  have HFB := SL.hid (fun (p : List UInt8) (L : List HProp) (w : World) hk (h : Ent L w) => rfind_any (es := b) (p := p) (ao := ab) (c := cb) (by omega) hk h)
  have hal : (sortK (a.map Ch.path ++ b.map Ch.path)).length ≤ 80000 := by
    have := sortK_len (a.map Ch.path ++ b.map Ch.path)
    simp at this
    omega
  have Hmem := SL.hid (show ∀ k ∈ sortK (a.map Ch.path ++ b.map Ch.path), k ∈ a.map Ch.path ∨ k ∈ b.map Ch.path from fun k hk => by rwa [sortK_mem, List.mem_append] at hk)
  unfold pairsC
  rw [List.filterMap_map, List.all_map]
  generalize sortK (a.map Ch.path ++ b.map Ch.path) = all at *
  obtain ⟨pas, has⟩ : ∃ pas, a.map Ch.path = pas := ⟨_, rfl⟩
  obtain ⟨pbs, hbs⟩ : ∃ pbs, b.map Ch.path = pbs := ⟨_, rfl⟩
  rw [has] at H1 H3 Hmem
  rw [hbs] at H2 H3 Hmem
  have Has := SL.hid has
  have Hbs := SL.hid hbs
  have Hne1 := SL.hid (hne1 rfl)
  have Hne2 := SL.hid (hne2 rfl)
  clear has hbs hpa hpb hne1 hne2
  obtain ⟨F, hF⟩ : ∃ F : List UInt8 → Option Ch, ((fun p => compO p.1 p.2) ∘ pairAt Ch.path Ch.path a b) = F := ⟨_, rfl⟩
  obtain ⟨G, hG⟩ : ∃ G : List UInt8 → Bool, ((fun p => fitsB p.1 p.2) ∘ pairAt Ch.path Ch.path a b) = G := ⟨_, rfl⟩
  have HF := SL.hid (show ∀ k, F k = compO (a.find? fun z => z.path == k) (b.find? fun z => z.path == k) from fun k => by rw [← hF]; rfl)
  have HG := SL.hid (show ∀ k, G k = fitsB (a.find? fun z => z.path == k) (b.find? fun z => z.path == k) from fun k => by rw [← hG]; rfl)
  rw [hF, hG]
  clear hF hG
  obtain ⟨XR, hXR⟩ : ∃ XR : List Ch, (if all.all G = true then all.filterMap F else []) = XR := ⟨_, rfl⟩
  obtain ⟨ER, hER⟩ : ∃ ER : Int, (if all.all G = true then 0 else 10) = ER := ⟨_, rfl⟩
  have HXR := SL.hid hXR
  have HER := SL.hid hER
  rw [hXR, hER]
  clear hXR hER
  have A1 := SL.hid True.intro
  have A2 := SL.hid True.intro
  go_enter Tryd.func25, Tryd.ntmps25
  go_wp2_with (first
    | go_skip
    | (clear A1; go_at_call 46; refine (HM1.out _ hE).mono ?_; clear hE; rintro e w2 ⟨v, h1, h2, hE⟩; cases h1; cases h2)
    | (go_at_call 46; refine (HM2.out _ hE).mono ?_; clear hE; rintro e w2 ⟨v, h1, h2, hE⟩; cases h1; cases h2)
    | (clear A2; go_at_call 47; refine (H1.out _ hE).mono ?_; clear hE; rintro e w2 ⟨v, h1, a1, c1, h2, hE⟩; cases h1; cases h2)
    | (go_at_call 47; refine (H2.out _ _ (List.suffix_cons _ _) hE).mono ?_; clear hE; rintro e w2 ⟨v, h1, a2, c2, h2, hE⟩; cases h1; cases h2)
    | (go_at_call 34; refine (H3.out _ _ _ _ _ _ (fun w h => reads_row h 1 rfl) (fun w h => reads_row h 0 rfl) hE).mono ?_; clear hE; rintro e w2 ⟨v, h1, a3, c3, m3, h2, hE⟩; cases h1; cases h2))
  obtain ⟨LL, hEL, hall, hl⟩ : ∃ LL, Ent LL w2 ∧ Knows LL (reads (.slice a3 all.length c3) all.length (all.map strv)) ∧ ∃ m, LL = m ++ l := ⟨_, hE, fun w h => reads_row h 0 rfl, rowS a3 c3 all :: (m3 ++ [rowS a2 c2 pbs, rowS a1 c1 pas]), by simp⟩
  clear hE
  have hE := hEL
  clear hEL
  have HKA := SL.hid (show Knows LL _ from by obtain ⟨m, rfl⟩ := hl; exact hka.append)
  have HKB := SL.hid (show Knows LL _ from by obtain ⟨m, rfl⟩ := hl; exact hkb.append)
  clear hka hkb H1 H2 H3 HM1 HM2
  go_loopw [7, 8] (fun o i wr => RcRel all F G LL o i wr) (fun _ i _ => all.length - (intOf i).toNat)
  case atStart => exact ⟨0, none, 0, [], Nat.zero_le _, rfl, rfl, by simp, rfl, hE.nil _ _⟩
  case round =>
    clear hE
    obtain ⟨k, ao, c, out, hkl, rfl, hout, hfit, rfl, hE⟩ := hrel
    have hol : out.length ≤ 80000 := by
      have := fm_len (all := all) (k := k) F
      rw [hout]
      omega
    by_cases hlt : k < all.length
    · obtain ⟨ba, oa, rfl, hz⟩ := str_at2 (hall _ hE.tail) hlt
      clear hz
      have f2 := SL.hid (show ∀ w, Ent LL w → w.cell? ⟨ba, oa + k, none⟩ = some (strv all[k]) from fun w h => by
        obtain ⟨b', o', e, h⟩ := str_at2 (hall w h) hlt
        cases e
        exact h)
      have Hst := SL.hid (fm_step hlt F)
      rw [← hout] at Hst
      have Hft := SL.hid (show G all[k] = true → ∀ z ∈ all.take (k + 1), G z = true from fun h z hz => by
        rw [List.take_succ_eq_append_getElem hlt] at hz
        rcases List.mem_append.1 hz with h1 | h1
        · exact hfit z h1
        · rw [List.mem_singleton.1 h1]; exact h)
      have Hmis := SL.hid (show G all[k] = false → all.all G = false from fun h => List.all_eq_false.2 ⟨all[k], List.getElem_mem hlt, by rw [h]; decide⟩)
      have Hin := SL.hid (Hmem.out _ (List.getElem_mem hlt))
      clear hout hfit
      simp only [strv] at f2
      generalize all[k] = key at *
      have HA := SL.hid (HFA.out key)
      have HB := SL.hid (HFB.out key)
      have HFk := SL.hid (HF.out key)
      have HGk := SL.hid (HG.out key)
      rcases findI_cases a key with ⟨hfa, hia⟩ | ⟨ia, hla, hfa, hia⟩
      case' inl =>
        rcases findI_cases b key with ⟨hfb, hib⟩ | ⟨ib, hlb, hfb, hib⟩
        · exfalso
          rcases Hin.out with h | h
          · rw [← Has.out] at h
            obtain ⟨x, hx⟩ := find_mem h
            rw [hfa] at hx; cases hx
          · rw [← Hbs.out] at h
            obtain ⟨x, hx⟩ := find_mem h
            rw [hfb] at hx; cases hx
        obtain ⟨bx, ox, rfl, hz⟩ := ch_at (HKB.out _ hE.tail) hlb
        clear hz
        have f0 := SL.hid (show ∀ w, Ent LL w → _ from fun w h => load_rc (HKB.out w h) hlb)
        have hkey := (find_key hfb).1
        have hxn := Hne2.out _ (find_key hfb).2
        rw [hfa, hfb] at HFk HGk
        rw [hia] at HA
        rw [hib] at HB
        clear hfa hfb hia hib
        have hlbi : (ib : Int) < (b.length : Int) := by omega
        have h0i : (0 : Int) ≤ (ib : Int) := by omega
        have h1i : ¬ (ib : Int) < 0 := by omega
        generalize b[ib] = x at *
        obtain ⟨xp, ⟨zt, zd, zb⟩, ⟨wt, wd, wb⟩⟩ := x
        simp only [chC, sdC] at f0
        simp only at hkey hxn
        subst hkey
        have Hfit := SL.hid (Hft.out HGk.out)
        have hEq := fun w => eqSr 9998 ⟨zt, zd, zb⟩ ⟨wt, wd, wb⟩ w
        rw [beq_eq_false_iff_ne.2 hxn] at hEq
        simp only [sdC] at hEq
        clear hxn
        have Hk := SL.hid (show F xp = if false = true then none else some ⟨xp, ⟨zt, zd, zb⟩, ⟨wt, wd, wb⟩⟩ from by rw [HFk.out]; rfl)
        clear HFk HGk
        go_wp2
        have hO := hE.drew
        refine wp_region_held_drew (S := (fun w' => ((Instr.loadAt 9 (.pointer (some ⟨ba, oa + k, none⟩))).run Tryd.prog w' = .ok (.string ⟨xp.toArray⟩) w'))) (by kernel_rfl) (atCell (f2.out _ (hO.suf sfx)) (by simp [go_sem])) (fun hS => ?_)
        refine tV 0 ⟨some 31, .move (.tmp 0), _, _, _, none⟩ hS ?_
        refine tV 1 ⟨some 32, .move (.tmp 6), _, _, _, none⟩ hS ?_
        refine tV 2 ⟨some 33, .move (.tmp 8), _, _, _, none⟩ hS ?_
        refine tV 3 ⟨some 34, .indexAddr 75 (.tmp 32) (.tmp 33), _, _, _, none⟩ hS ?_
        refine tL 4 ⟨some 35, .load 9 (.tmp 34), _, _, _, none⟩ hS ?_
        refine tV 6 ⟨some 37, .move (.tmp 1), _, _, _, none⟩ hS ?_
        refine tV 7 ⟨some 38, .move (.tmp 6), _, _, _, none⟩ hS ?_
        refine tV 8 ⟨some 39, .move (.tmp 8), _, _, _, none⟩ hS ?_
        refine tV 9 ⟨some 40, .indexAddr 75 (.tmp 38) (.tmp 39), _, _, _, none⟩ hS ?_
        refine tL 10 ⟨some 41, .load 9 (.tmp 40), _, _, _, none⟩ hS ?_
        refine wpAnyH_ready (rs := [5]) (by kernel_rfl) (by simp) ?_
        refine (AllReadyH.cons (o := ⟨some 36, .call { callee := .value (.func 48), args := #[.tmp 31, .tmp 35], argTypes := #[33, 9] }, _, _, _, none⟩) rfl (fun K hK => ?_) AllReadyH.nil)
        (go_simp; refine (HA.out _ _ (HKA.out.suf sfx) hO).mono ?_; clear hO; rintro e w5 ⟨v, h1, h2, hO⟩; cases h1; cases h2)
        refine hK.out _ _ (atCell (f2.out _ (hO.suf sfx)) (by simp [go_sem])) (fun hS => ?_)
        clear hK K
        try simp only [Act.put, sb, s0, sz]
        refine wpAnyH_ready (rs := [11]) (by kernel_rfl) (by simp) ?_
        refine (AllReadyH.cons (o := ⟨some 42, .call { callee := .value (.func 48), args := #[.tmp 37, .tmp 41], argTypes := #[33, 9] }, _, _, _, none⟩) rfl (fun K hK => ?_) AllReadyH.nil)
        (go_simp; refine (HB.out _ _ (HKB.out.suf sfx) hO).mono ?_; clear hO; rintro e w5 ⟨v, h1, h2, hO⟩; cases h1; cases h2)
        refine hK.out _ _ (atCell (f2.out _ (hO.suf sfx)) (by simp [go_sem])) (fun hS => ?_)
        clear hK K
        try simp only [Act.put, sb, s0, sz]
        refine tV 12 ⟨some 9, .assign (.tmp 36), _, _, _, none⟩ hS ?_
        refine tV 13 ⟨some 10, .assign (.tmp 42), _, _, _, none⟩ hS ?_
        refine wpAnyH_done (by kernel_rfl) ?_ _
        all_goals
          clear hS hE
          have hE := hO
          clear hO
          have hy := atCell (t := 9) (P := Tryd.prog) (f2.out _ hE.tail) (by simp [go_sem])
          have A3 := SL.hid True.intro
          rw [if_neg (by decide)] at Hk
          go_wp2_with (first
            | go_skip
            | ((with_reducible (show Go.wpList _ _ _ (Go.Oper.mk _ (.alloc _) _ _ _ _ :: _) _ _)); clear hy; refine wpl_alloc hE rfl rfl (by simp [go_sem]; rfl) ?_; clear hE; intro b8 w hE; simp only [Act.eval, Act.put, List.setIfInBounds_toArray, List.set_cons_zero, List.set_cons_succ, getD_lit, List.getD_cons_succ, List.getD_cons_zero, Value.cells] at hE)
            | (clear A3; (with_reducible (show Go.wpList _ _ _ (Go.Oper.mk _ (.store 74 _ _) _ _ _ _ :: _) _ _)); refine wpl_storeW hE 0 rfl rfl rfl (xs := [.string ⟨xp.toArray⟩, .bool false, .bool false, .string ⟨#[]⟩, .bool false, .bool false, .string ⟨#[]⟩]) rfl rfl Tryd.sizeOf74 rfl (by simp [Value.oneCell']) rfl ?_; clear hE; intro w8 hE; simp only [List.set_cons_zero] at hE; have hld := (f0.out _ hE.tail.tail).1)
            | ((with_reducible (show Go.wpList _ _ _ (Go.Oper.mk _ (.store 74 _ _) _ _ _ _ :: _) _ _)); clear hld; refine wpl_storeW hE 0 rfl rfl rfl (xs := [.string ⟨xp.toArray⟩, .bool zt, .bool zd, .string ⟨zb.toArray⟩, .bool wt, .bool wd, .string ⟨wb.toArray⟩]) rfl rfl Tryd.sizeOf74 rfl (by simp [Value.oneCell']) rfl ?_; clear hE; intro w8 hE; simp only [List.set_cons_zero] at hE)
            | ((with_reducible (show Go.wpList _ _ _ (Go.Oper.mk _ (.load 39 _) _ _ _ _ :: _) _ _)); first | refine wpl_loadA hE 0 rfl rfl rfl (off := 1) rfl Tryd.isAgg39 Tryd.sizeOf39 [.bool zt, .bool zd, .string ⟨zb.toArray⟩] rfl (fun j hj => by match j, hj with | 0, _ => rfl | 1, _ => rfl | 2, _ => rfl) ?_ | refine wpl_loadA hE 0 rfl rfl rfl (off := 4) rfl Tryd.isAgg39 Tryd.sizeOf39 [.bool wt, .bool wd, .string ⟨wb.toArray⟩] rfl (fun j hj => by match j, hj with | 0, _ => rfl | 1, _ => rfl | 2, _ => rfl) ?_)
            | ((with_reducible (show Go.wpList _ _ _ (Go.Oper.mk _ (.load 74 (.tmp 11)) _ _ _ _ :: _) _ _)); refine wpl_loadW hE 0 rfl rfl rfl rfl Tryd.isAgg74 Tryd.sizeOf74 rfl ?_)
            | ((with_reducible (show Go.wpList _ _ _ (Go.Oper.mk _ (.buildSlice _ _ _) _ _ _ _ :: _) _ _)); refine wpl_build1 hE rfl rfl (xs := chC ⟨xp, ⟨zt, zd, zb⟩, ⟨wt, wd, wb⟩⟩) rfl Tryd.underlying33 zs_rch Tryd.sizeOf74 (by decide) (by decide) rfl ?_; clear hE; intro b9 w3 hE)
            | ((with_reducible (show Go.wpList _ _ _ (Go.Oper.mk _ (.call { callee := .builtin .append, args := _, argTypes := _ }) _ _ _ _ :: _) _ _)); refine wpl_appendG hE 2 rfl rfl rfl rfl rfl Tryd.underlying33 info_rch (by decide) (m := 1) (news := chC ⟨xp, ⟨zt, zd, zb⟩, ⟨wt, wd, wb⟩⟩) (reads_pt hE 0 rfl (off := 0) (fun j u hu => by rw [Nat.zero_add, List.getElem?_toArray]; exact hu)) rfl (chC_one _) (by omega) (by omega) ?_; clear hE; intro a7 c7 w6 hE; simp only [List.set_cons_zero, List.set_cons_succ] at hE))
          go_roundw
          case rel =>
            refine ⟨k + 1, a7, c7, out ++ [⟨xp, ⟨zt, zd, zb⟩, ⟨wt, wd, wb⟩⟩], hlt, by first | rfl | simp, by rw [Hst.out, Hk.out]; rfl, Hfit.out, by simp, ?_⟩
            rw [← rowRc_add]
            exact hE.tail.tail
          case measure => simp [intOf] <;> omega
      case' inr =>
        rcases findI_cases b key with ⟨hfb, hib⟩ | ⟨ib, hlb, hfb, hib⟩
        case' inl =>
          obtain ⟨bx, ox, rfl, hz⟩ := ch_at (HKA.out _ hE.tail) hla
          clear hz
          have f0 := SL.hid (show ∀ w, Ent LL w → _ from fun w h => load_rc (HKA.out w h) hla)
          have hkey := (find_key hfa).1
          have hxn := Hne1.out _ (find_key hfa).2
          rw [hfa, hfb] at HFk HGk
          rw [hia] at HA
          rw [hib] at HB
          clear hfa hfb hia hib
          have hlai : (ia : Int) < (a.length : Int) := by omega
          have h0i : (0 : Int) ≤ (ia : Int) := by omega
          have h1i : ¬ (ia : Int) < 0 := by omega
          generalize a[ia] = x at *
          obtain ⟨xp, ⟨zt, zd, zb⟩, ⟨wt, wd, wb⟩⟩ := x
          simp only [chC, sdC] at f0
          simp only at hkey hxn
          subst hkey
          have Hfit := SL.hid (Hft.out HGk.out)
          have hEq := fun w => eqSr 9998 ⟨zt, zd, zb⟩ ⟨wt, wd, wb⟩ w
          rw [beq_eq_false_iff_ne.2 hxn] at hEq
          simp only [sdC] at hEq
          clear hxn
          have Hk := SL.hid (show F xp = if false = true then none else some ⟨xp, ⟨zt, zd, zb⟩, ⟨wt, wd, wb⟩⟩ from by rw [HFk.out]; rfl)
          clear HFk HGk
          go_wp2
          have hO := hE.drew
          refine wp_region_held_drew (S := (fun w' => ((Instr.loadAt 9 (.pointer (some ⟨ba, oa + k, none⟩))).run Tryd.prog w' = .ok (.string ⟨xp.toArray⟩) w'))) (by kernel_rfl) (atCell (f2.out _ (hO.suf sfx)) (by simp [go_sem])) (fun hS => ?_)
          refine tV 0 ⟨some 31, .move (.tmp 0), _, _, _, none⟩ hS ?_
          refine tV 1 ⟨some 32, .move (.tmp 6), _, _, _, none⟩ hS ?_
          refine tV 2 ⟨some 33, .move (.tmp 8), _, _, _, none⟩ hS ?_
          refine tV 3 ⟨some 34, .indexAddr 75 (.tmp 32) (.tmp 33), _, _, _, none⟩ hS ?_
          refine tL 4 ⟨some 35, .load 9 (.tmp 34), _, _, _, none⟩ hS ?_
          refine tV 6 ⟨some 37, .move (.tmp 1), _, _, _, none⟩ hS ?_
          refine tV 7 ⟨some 38, .move (.tmp 6), _, _, _, none⟩ hS ?_
          refine tV 8 ⟨some 39, .move (.tmp 8), _, _, _, none⟩ hS ?_
          refine tV 9 ⟨some 40, .indexAddr 75 (.tmp 38) (.tmp 39), _, _, _, none⟩ hS ?_
          refine tL 10 ⟨some 41, .load 9 (.tmp 40), _, _, _, none⟩ hS ?_
          refine wpAnyH_ready (rs := [5]) (by kernel_rfl) (by simp) ?_
          refine (AllReadyH.cons (o := ⟨some 36, .call { callee := .value (.func 48), args := #[.tmp 31, .tmp 35], argTypes := #[33, 9] }, _, _, _, none⟩) rfl (fun K hK => ?_) AllReadyH.nil)
          (go_simp; refine (HA.out _ _ (HKA.out.suf sfx) hO).mono ?_; clear hO; rintro e w5 ⟨v, h1, h2, hO⟩; cases h1; cases h2)
          refine hK.out _ _ (atCell (f2.out _ (hO.suf sfx)) (by simp [go_sem])) (fun hS => ?_)
          clear hK K
          try simp only [Act.put, sb, s0, sz]
          refine wpAnyH_ready (rs := [11]) (by kernel_rfl) (by simp) ?_
          refine (AllReadyH.cons (o := ⟨some 42, .call { callee := .value (.func 48), args := #[.tmp 37, .tmp 41], argTypes := #[33, 9] }, _, _, _, none⟩) rfl (fun K hK => ?_) AllReadyH.nil)
          (go_simp; refine (HB.out _ _ (HKB.out.suf sfx) hO).mono ?_; clear hO; rintro e w5 ⟨v, h1, h2, hO⟩; cases h1; cases h2)
          refine hK.out _ _ (atCell (f2.out _ (hO.suf sfx)) (by simp [go_sem])) (fun hS => ?_)
          clear hK K
          try simp only [Act.put, sb, s0, sz]
          refine tV 12 ⟨some 9, .assign (.tmp 36), _, _, _, none⟩ hS ?_
          refine tV 13 ⟨some 10, .assign (.tmp 42), _, _, _, none⟩ hS ?_
          refine wpAnyH_done (by kernel_rfl) ?_ _
          all_goals
            clear hS hE
            have hE := hO
            clear hO
            have hy := atCell (t := 9) (P := Tryd.prog) (f2.out _ hE.tail) (by simp [go_sem])
            have A3 := SL.hid True.intro
            rw [if_neg (by decide)] at Hk
            go_wp2_with (first
              | go_skip
              | ((with_reducible (show Go.wpList _ _ _ (Go.Oper.mk _ (.alloc _) _ _ _ _ :: _) _ _)); clear hy; refine wpl_alloc hE rfl rfl (by simp [go_sem]; rfl) ?_; clear hE; intro b8 w hE; simp only [Act.eval, Act.put, List.setIfInBounds_toArray, List.set_cons_zero, List.set_cons_succ, getD_lit, List.getD_cons_succ, List.getD_cons_zero, Value.cells] at hE)
              | (clear A3; (with_reducible (show Go.wpList _ _ _ (Go.Oper.mk _ (.store 74 _ _) _ _ _ _ :: _) _ _)); refine wpl_storeW hE 0 rfl rfl rfl (xs := [.string ⟨xp.toArray⟩, .bool false, .bool false, .string ⟨#[]⟩, .bool false, .bool false, .string ⟨#[]⟩]) rfl rfl Tryd.sizeOf74 rfl (by simp [Value.oneCell']) rfl ?_; clear hE; intro w8 hE; simp only [List.set_cons_zero] at hE; have hld := (f0.out _ hE.tail.tail).1)
              | ((with_reducible (show Go.wpList _ _ _ (Go.Oper.mk _ (.store 74 _ _) _ _ _ _ :: _) _ _)); clear hld; refine wpl_storeW hE 0 rfl rfl rfl (xs := [.string ⟨xp.toArray⟩, .bool zt, .bool zd, .string ⟨zb.toArray⟩, .bool wt, .bool wd, .string ⟨wb.toArray⟩]) rfl rfl Tryd.sizeOf74 rfl (by simp [Value.oneCell']) rfl ?_; clear hE; intro w8 hE; simp only [List.set_cons_zero] at hE)
              | ((with_reducible (show Go.wpList _ _ _ (Go.Oper.mk _ (.load 39 _) _ _ _ _ :: _) _ _)); first | refine wpl_loadA hE 0 rfl rfl rfl (off := 1) rfl Tryd.isAgg39 Tryd.sizeOf39 [.bool zt, .bool zd, .string ⟨zb.toArray⟩] rfl (fun j hj => by match j, hj with | 0, _ => rfl | 1, _ => rfl | 2, _ => rfl) ?_ | refine wpl_loadA hE 0 rfl rfl rfl (off := 4) rfl Tryd.isAgg39 Tryd.sizeOf39 [.bool wt, .bool wd, .string ⟨wb.toArray⟩] rfl (fun j hj => by match j, hj with | 0, _ => rfl | 1, _ => rfl | 2, _ => rfl) ?_)
              | ((with_reducible (show Go.wpList _ _ _ (Go.Oper.mk _ (.load 74 (.tmp 11)) _ _ _ _ :: _) _ _)); refine wpl_loadW hE 0 rfl rfl rfl rfl Tryd.isAgg74 Tryd.sizeOf74 rfl ?_)
              | ((with_reducible (show Go.wpList _ _ _ (Go.Oper.mk _ (.buildSlice _ _ _) _ _ _ _ :: _) _ _)); refine wpl_build1 hE rfl rfl (xs := chC ⟨xp, ⟨zt, zd, zb⟩, ⟨wt, wd, wb⟩⟩) rfl Tryd.underlying33 zs_rch Tryd.sizeOf74 (by decide) (by decide) rfl ?_; clear hE; intro b9 w3 hE)
              | ((with_reducible (show Go.wpList _ _ _ (Go.Oper.mk _ (.call { callee := .builtin .append, args := _, argTypes := _ }) _ _ _ _ :: _) _ _)); refine wpl_appendG hE 2 rfl rfl rfl rfl rfl Tryd.underlying33 info_rch (by decide) (m := 1) (news := chC ⟨xp, ⟨zt, zd, zb⟩, ⟨wt, wd, wb⟩⟩) (reads_pt hE 0 rfl (off := 0) (fun j u hu => by rw [Nat.zero_add, List.getElem?_toArray]; exact hu)) rfl (chC_one _) (by omega) (by omega) ?_; clear hE; intro a7 c7 w6 hE; simp only [List.set_cons_zero, List.set_cons_succ] at hE))
            go_roundw
            case rel =>
              refine ⟨k + 1, a7, c7, out ++ [⟨xp, ⟨zt, zd, zb⟩, ⟨wt, wd, wb⟩⟩], hlt, by first | rfl | simp, by rw [Hst.out, Hk.out]; rfl, Hfit.out, by simp, ?_⟩
              rw [← rowRc_add]
              exact hE.tail.tail
            case measure => simp [intOf] <;> omega
        obtain ⟨bx, ox, rfl, hz⟩ := ch_at (HKA.out _ hE.tail) hla
        obtain ⟨b_y, oy, rfl, hz2⟩ := ch_at (HKB.out _ hE.tail) hlb
        clear hz hz2
        have f0 := SL.hid (show ∀ w, Ent LL w → _ from fun w h => load_rc (HKA.out w h) hla)
        have f1 := SL.hid (show ∀ w, Ent LL w → _ from fun w h => load_rc (HKB.out w h) hlb)
        have hkey := (find_key hfa).1
        rw [hfa, hfb] at HFk HGk
        rw [hia] at HA
        rw [hib] at HB
        clear hfa hfb hia hib
        have hlai : (ia : Int) < (a.length : Int) := by omega
        have h0i : (0 : Int) ≤ (ia : Int) := by omega
        have h1i : ¬ (ia : Int) < 0 := by omega
        have hlbi : (ib : Int) < (b.length : Int) := by omega
        have h2i : (0 : Int) ≤ (ib : Int) := by omega
        have h3i : ¬ (ib : Int) < 0 := by omega
        generalize a[ia] = x at *
        generalize b[ib] = y at *
        obtain ⟨xp, ⟨zt, zd, zb⟩, ⟨xt, xd, xb⟩⟩ := x
        obtain ⟨yp, ⟨yt, yd, yb⟩, ⟨wt, wd, wb⟩⟩ := y
        simp only [chC, sdC] at f0 f1
        simp only at hkey
        subst hkey
        have hEq2 := fun w => eqSr 9998 ⟨xt, xd, xb⟩ ⟨yt, yd, yb⟩ w
        have hEq := fun w => eqSr 9998 ⟨zt, zd, zb⟩ ⟨wt, wd, wb⟩ w
        have Hk := SL.hid (show F xp = if ((⟨zt, zd, zb⟩ : Sd) == ⟨wt, wd, wb⟩) = true then none else some ⟨xp, ⟨zt, zd, zb⟩, ⟨wt, wd, wb⟩⟩ from by rw [HFk.out]; by_cases h : (⟨zt, zd, zb⟩ : Sd) = ⟨wt, wd, wb⟩ <;> simp [compO, h])
        have HG2 := SL.hid (show G xp = ((⟨xt, xd, xb⟩ : Sd) == ⟨yt, yd, yb⟩) from by rw [HGk.out]; rfl)
        clear HFk HGk
        simp only [sdC] at hEq hEq2
        generalize ((⟨zt, zd, zb⟩ : Sd) == ⟨wt, wd, wb⟩) = eq at *
        generalize ((⟨xt, xd, xb⟩ : Sd) == ⟨yt, yd, yb⟩) = eq2 at *
        go_wp2
        have hO := hE.drew
        refine wp_region_held_drew (S := (fun w' => ((Instr.loadAt 9 (.pointer (some ⟨ba, oa + k, none⟩))).run Tryd.prog w' = .ok (.string ⟨xp.toArray⟩) w'))) (by kernel_rfl) (atCell (f2.out _ (hO.suf sfx)) (by simp [go_sem])) (fun hS => ?_)
        refine tV 0 ⟨some 31, .move (.tmp 0), _, _, _, none⟩ hS ?_
        refine tV 1 ⟨some 32, .move (.tmp 6), _, _, _, none⟩ hS ?_
        refine tV 2 ⟨some 33, .move (.tmp 8), _, _, _, none⟩ hS ?_
        refine tV 3 ⟨some 34, .indexAddr 75 (.tmp 32) (.tmp 33), _, _, _, none⟩ hS ?_
        refine tL 4 ⟨some 35, .load 9 (.tmp 34), _, _, _, none⟩ hS ?_
        refine tV 6 ⟨some 37, .move (.tmp 1), _, _, _, none⟩ hS ?_
        refine tV 7 ⟨some 38, .move (.tmp 6), _, _, _, none⟩ hS ?_
        refine tV 8 ⟨some 39, .move (.tmp 8), _, _, _, none⟩ hS ?_
        refine tV 9 ⟨some 40, .indexAddr 75 (.tmp 38) (.tmp 39), _, _, _, none⟩ hS ?_
        refine tL 10 ⟨some 41, .load 9 (.tmp 40), _, _, _, none⟩ hS ?_
        refine wpAnyH_ready (rs := [5]) (by kernel_rfl) (by simp) ?_
        refine (AllReadyH.cons (o := ⟨some 36, .call { callee := .value (.func 48), args := #[.tmp 31, .tmp 35], argTypes := #[33, 9] }, _, _, _, none⟩) rfl (fun K hK => ?_) AllReadyH.nil)
        (go_simp; refine (HA.out _ _ (HKA.out.suf sfx) hO).mono ?_; clear hO; rintro e w5 ⟨v, h1, h2, hO⟩; cases h1; cases h2)
        refine hK.out _ _ (atCell (f2.out _ (hO.suf sfx)) (by simp [go_sem])) (fun hS => ?_)
        clear hK K
        try simp only [Act.put, sb, s0, sz]
        refine wpAnyH_ready (rs := [11]) (by kernel_rfl) (by simp) ?_
        refine (AllReadyH.cons (o := ⟨some 42, .call { callee := .value (.func 48), args := #[.tmp 37, .tmp 41], argTypes := #[33, 9] }, _, _, _, none⟩) rfl (fun K hK => ?_) AllReadyH.nil)
        (go_simp; refine (HB.out _ _ (HKB.out.suf sfx) hO).mono ?_; clear hO; rintro e w5 ⟨v, h1, h2, hO⟩; cases h1; cases h2)
        refine hK.out _ _ (atCell (f2.out _ (hO.suf sfx)) (by simp [go_sem])) (fun hS => ?_)
        clear hK K
        try simp only [Act.put, sb, s0, sz]
        refine tV 12 ⟨some 9, .assign (.tmp 36), _, _, _, none⟩ hS ?_
        refine tV 13 ⟨some 10, .assign (.tmp 42), _, _, _, none⟩ hS ?_
        refine wpAnyH_done (by kernel_rfl) ?_ _
        all_goals
          clear hS hE
          have hE := hO
          clear hO
          have hy := atCell (t := 9) (P := Tryd.prog) (f2.out _ hE.tail) (by simp [go_sem])
          go_wp2_with (first
            | go_skip
            | ((with_reducible (show Go.wpList _ _ _ (Go.Oper.mk _ (.alloc _) _ _ _ _ :: _) _ _)); clear hy; refine wpl_alloc hE rfl rfl (by simp [go_sem]; rfl) ?_; clear hE; intro b8 w hE; simp only [Act.eval, Act.put, List.setIfInBounds_toArray, List.set_cons_zero, List.set_cons_succ, getD_lit, List.getD_cons_succ, List.getD_cons_zero, Value.cells] at hE)
            | ((with_reducible (show Go.wpList _ _ _ (Go.Oper.mk _ (.store 74 _ _) _ _ _ _ :: _) _ _)); refine wpl_storeW hE 0 rfl rfl rfl (xs := [.string ⟨xp.toArray⟩, .bool false, .bool false, .string ⟨#[]⟩, .bool false, .bool false, .string ⟨#[]⟩]) rfl rfl Tryd.sizeOf74 rfl (by simp [Value.oneCell']) rfl ?_; clear hE; intro w8 hE; simp only [List.set_cons_zero] at hE))
          cases eq2 with
          | false =>
            have Hno := SL.hid (Hmis.out HG2.out)
            have hO := hE.drew
            refine wp_region_held_drew (S := (fun w' => ((Instr.loadAt 39 (.pointer (some ⟨bx, ox + ia * 7 + 4, none⟩))).run Tryd.prog w' = .ok (.agg #[.bool xt, .bool xd, .string ⟨xb.toArray⟩]) w') ∧ ((Instr.loadAt 39 (.pointer (some ⟨b_y, oy + ib * 7 + 1, none⟩))).run Tryd.prog w' = .ok (.agg #[.bool yt, .bool yd, .string ⟨yb.toArray⟩]) w'))) (by kernel_rfl) ⟨(f0.out _ (hO.suf sfx)).2.2.2, (f1.out _ (hO.suf sfx)).2.2.1⟩ (fun hS => ?_)
            refine tV 0 ⟨some 75, .move (.tmp 0), _, _, _, none⟩ hS ?_
            refine tV 1 ⟨some 76, .move (.tmp 9), _, _, _, none⟩ hS ?_
            refine tV 2 ⟨some 77, .indexAddr 33 (.tmp 75) (.tmp 76), _, _, _, none⟩ hS ?_
            refine tV 3 ⟨some 78, .fieldAddr 74 (.tmp 77) 2, _, _, _, none⟩ hS ?_
            refine tL 4 ⟨some 79, .load 39 (.tmp 78), _, _, _, none⟩ hS ?_
            refine tV 5 ⟨some 80, .move (.tmp 1), _, _, _, none⟩ hS ?_
            refine tV 6 ⟨some 81, .move (.tmp 10), _, _, _, none⟩ hS ?_
            refine tV 7 ⟨some 82, .indexAddr 33 (.tmp 80) (.tmp 81), _, _, _, none⟩ hS ?_
            refine tV 8 ⟨some 83, .fieldAddr 74 (.tmp 82) 1, _, _, _, none⟩ hS ?_
            refine tL 9 ⟨some 84, .load 39 (.tmp 83), _, _, _, none⟩ hS ?_
            refine tV 10 ⟨some 85, .binOp .neq 39 (.tmp 79) (.tmp 84) 39, _, _, _, none⟩ hS ?_
            refine tV 11 ⟨some 74, .assign (.tmp 85), _, _, _, none⟩ hS ?_
            refine wpAnyH_done (by kernel_rfl) ?_ _
            all_goals
              clear hS hE
              have hE := hO
              clear hO
              obtain ⟨m, hl⟩ := hl
              subst hl
              go_wp2
              refine bodyPost_ret (results_tmp2 rfl _ _ _) rfl ?_
              exact ⟨_, rfl, by rw [← HXR.out, ← HER.out, Hno.out]; exact ⟨none, 0, m, rfl, hE.tail.tail.nil _ _⟩⟩
          | true =>
            have Hfit := SL.hid (Hft.out HG2.out)
            have hO := hE.drew
            refine wp_region_held_drew (S := (fun w' => ((Instr.loadAt 39 (.pointer (some ⟨bx, ox + ia * 7 + 4, none⟩))).run Tryd.prog w' = .ok (.agg #[.bool xt, .bool xd, .string ⟨xb.toArray⟩]) w') ∧ ((Instr.loadAt 39 (.pointer (some ⟨b_y, oy + ib * 7 + 1, none⟩))).run Tryd.prog w' = .ok (.agg #[.bool yt, .bool yd, .string ⟨yb.toArray⟩]) w'))) (by kernel_rfl) ⟨(f0.out _ (hO.suf sfx)).2.2.2, (f1.out _ (hO.suf sfx)).2.2.1⟩ (fun hS => ?_)
            refine tV 0 ⟨some 75, .move (.tmp 0), _, _, _, none⟩ hS ?_
            refine tV 1 ⟨some 76, .move (.tmp 9), _, _, _, none⟩ hS ?_
            refine tV 2 ⟨some 77, .indexAddr 33 (.tmp 75) (.tmp 76), _, _, _, none⟩ hS ?_
            refine tV 3 ⟨some 78, .fieldAddr 74 (.tmp 77) 2, _, _, _, none⟩ hS ?_
            refine tL 4 ⟨some 79, .load 39 (.tmp 78), _, _, _, none⟩ hS ?_
            refine tV 5 ⟨some 80, .move (.tmp 1), _, _, _, none⟩ hS ?_
            refine tV 6 ⟨some 81, .move (.tmp 10), _, _, _, none⟩ hS ?_
            refine tV 7 ⟨some 82, .indexAddr 33 (.tmp 80) (.tmp 81), _, _, _, none⟩ hS ?_
            refine tV 8 ⟨some 83, .fieldAddr 74 (.tmp 82) 1, _, _, _, none⟩ hS ?_
            refine tL 9 ⟨some 84, .load 39 (.tmp 83), _, _, _, none⟩ hS ?_
            refine tV 10 ⟨some 85, .binOp .neq 39 (.tmp 79) (.tmp 84) 39, _, _, _, none⟩ hS ?_
            refine tV 11 ⟨some 74, .assign (.tmp 85), _, _, _, none⟩ hS ?_
            refine wpAnyH_done (by kernel_rfl) ?_ _
            all_goals
              clear hS hE
              have hE := hO
              clear hO
              have hld := (f0.out _ hE.tail.tail).2.2.1
              have A3 := SL.hid True.intro
              cases eq with
              | true =>
                rw [if_pos rfl] at Hk
                go_wp2_with (first
                  | go_skip
                  | (clear A3; (with_reducible (show Go.wpList _ _ _ (Go.Oper.mk _ (.store 39 _ _) _ _ _ _ :: _) _ _)); clear hld; refine wpl_storeQ hE 0 rfl rfl rfl (off := 1) rfl (v := .agg #[.bool zt, .bool zd, .string ⟨zb.toArray⟩]) rfl Tryd.sizeOf39 rfl (by simp [Value.oneCell', Value.cells]) (by simp) (xs' := [.string ⟨xp.toArray⟩, .bool zt, .bool zd, .string ⟨zb.toArray⟩, .bool false, .bool false, .string ⟨#[]⟩]) rfl ?_; clear hE; intro w8 hE; simp only [List.set_cons_zero] at hE; have hld := (f1.out _ hE.tail.tail).2.2.2)
                  | ((with_reducible (show Go.wpList _ _ _ (Go.Oper.mk _ (.store 39 _ _) _ _ _ _ :: _) _ _)); clear hld; refine wpl_storeQ hE 0 rfl rfl rfl (off := 4) rfl (v := .agg #[.bool wt, .bool wd, .string ⟨wb.toArray⟩]) rfl Tryd.sizeOf39 rfl (by simp [Value.oneCell', Value.cells]) (by simp) (xs' := [.string ⟨xp.toArray⟩, .bool zt, .bool zd, .string ⟨zb.toArray⟩, .bool wt, .bool wd, .string ⟨wb.toArray⟩]) rfl ?_; clear hE; intro w8 hE; simp only [List.set_cons_zero] at hE)
                  | ((with_reducible (show Go.wpList _ _ _ (Go.Oper.mk _ (.load 39 _) _ _ _ _ :: _) _ _)); first | refine wpl_loadA hE 0 rfl rfl rfl (off := 1) rfl Tryd.isAgg39 Tryd.sizeOf39 [.bool zt, .bool zd, .string ⟨zb.toArray⟩] rfl (fun j hj => by match j, hj with | 0, _ => rfl | 1, _ => rfl | 2, _ => rfl) ?_ | refine wpl_loadA hE 0 rfl rfl rfl (off := 4) rfl Tryd.isAgg39 Tryd.sizeOf39 [.bool wt, .bool wd, .string ⟨wb.toArray⟩] rfl (fun j hj => by match j, hj with | 0, _ => rfl | 1, _ => rfl | 2, _ => rfl) ?_))
                go_roundw
                case rel => exact ⟨k + 1, ao, c, out, hlt, by first | rfl | simp, by rw [Hst.out, Hk.out]; simp, Hfit.out, rfl, hE.tail⟩
                case measure => simp [intOf] <;> omega
              | false =>
                rw [if_neg (by decide)] at Hk
                go_wp2_with (first
                  | go_skip
                  | (clear A3; (with_reducible (show Go.wpList _ _ _ (Go.Oper.mk _ (.store 39 _ _) _ _ _ _ :: _) _ _)); clear hld; refine wpl_storeQ hE 0 rfl rfl rfl (off := 1) rfl (v := .agg #[.bool zt, .bool zd, .string ⟨zb.toArray⟩]) rfl Tryd.sizeOf39 rfl (by simp [Value.oneCell', Value.cells]) (by simp) (xs' := [.string ⟨xp.toArray⟩, .bool zt, .bool zd, .string ⟨zb.toArray⟩, .bool false, .bool false, .string ⟨#[]⟩]) rfl ?_; clear hE; intro w8 hE; simp only [List.set_cons_zero] at hE; have hld := (f1.out _ hE.tail.tail).2.2.2)
                  | ((with_reducible (show Go.wpList _ _ _ (Go.Oper.mk _ (.store 39 _ _) _ _ _ _ :: _) _ _)); clear hld; refine wpl_storeQ hE 0 rfl rfl rfl (off := 4) rfl (v := .agg #[.bool wt, .bool wd, .string ⟨wb.toArray⟩]) rfl Tryd.sizeOf39 rfl (by simp [Value.oneCell', Value.cells]) (by simp) (xs' := [.string ⟨xp.toArray⟩, .bool zt, .bool zd, .string ⟨zb.toArray⟩, .bool wt, .bool wd, .string ⟨wb.toArray⟩]) rfl ?_; clear hE; intro w8 hE; simp only [List.set_cons_zero] at hE)
                  | ((with_reducible (show Go.wpList _ _ _ (Go.Oper.mk _ (.load 39 _) _ _ _ _ :: _) _ _)); first | refine wpl_loadA hE 0 rfl rfl rfl (off := 1) rfl Tryd.isAgg39 Tryd.sizeOf39 [.bool zt, .bool zd, .string ⟨zb.toArray⟩] rfl (fun j hj => by match j, hj with | 0, _ => rfl | 1, _ => rfl | 2, _ => rfl) ?_ | refine wpl_loadA hE 0 rfl rfl rfl (off := 4) rfl Tryd.isAgg39 Tryd.sizeOf39 [.bool wt, .bool wd, .string ⟨wb.toArray⟩] rfl (fun j hj => by match j, hj with | 0, _ => rfl | 1, _ => rfl | 2, _ => rfl) ?_)
                  | ((with_reducible (show Go.wpList _ _ _ (Go.Oper.mk _ (.load 74 (.tmp 11)) _ _ _ _ :: _) _ _)); refine wpl_loadW hE 0 rfl rfl rfl rfl Tryd.isAgg74 Tryd.sizeOf74 rfl ?_)
                  | ((with_reducible (show Go.wpList _ _ _ (Go.Oper.mk _ (.buildSlice _ _ _) _ _ _ _ :: _) _ _)); refine wpl_build1 hE rfl rfl (xs := chC ⟨xp, ⟨zt, zd, zb⟩, ⟨wt, wd, wb⟩⟩) rfl Tryd.underlying33 zs_rch Tryd.sizeOf74 (by decide) (by decide) rfl ?_; clear hE; intro b9 w3 hE)
                  | ((with_reducible (show Go.wpList _ _ _ (Go.Oper.mk _ (.call { callee := .builtin .append, args := _, argTypes := _ }) _ _ _ _ :: _) _ _)); refine wpl_appendG hE 2 rfl rfl rfl rfl rfl Tryd.underlying33 info_rch (by decide) (m := 1) (news := chC ⟨xp, ⟨zt, zd, zb⟩, ⟨wt, wd, wb⟩⟩) (reads_pt hE 0 rfl (off := 0) (fun j u hu => by rw [Nat.zero_add, List.getElem?_toArray]; exact hu)) rfl (chC_one _) (by omega) (by omega) ?_; clear hE; intro a7 c7 w6 hE; simp only [List.set_cons_zero, List.set_cons_succ] at hE))
                go_roundw
                case rel =>
                  refine ⟨k + 1, a7, c7, out ++ [⟨xp, ⟨zt, zd, zb⟩, ⟨wt, wd, wb⟩⟩], hlt, by first | rfl | simp, by rw [Hst.out, Hk.out]; rfl, Hfit.out, by simp, ?_⟩
                  rw [← rowRc_add]
                  exact hE.tail.tail
                case measure => simp [intOf] <;> omega
    · obtain rfl : k = all.length := by omega
      rw [List.take_length] at hout hfit
      have hg : all.all G = true := List.all_eq_true.2 hfit
      subst hout
      obtain ⟨m, hl⟩ := hl
      subst hl
      have Hg := SL.hid hg
      clear hg hfit
      go_wp2
      refine bodyPost_ret (results_tmp2 rfl _ _ _) rfl ?_
      exact ⟨_, rfl, by rw [← HXR.out, ← HER.out, Hg.out]; exact ⟨ao, c, m, rfl, hE⟩⟩
end Go.Proofs.YtcpgelpajppgdaaDoor
namespace Go.Proofs.YtcpgelpajppgdaaDoor
open Go.RowKit Go.SL

set_option maxRecDepth 100000 in
set_option maxHeartbeats 4000000 in
attribute [-go_sem] Instr.loadAt in
theorem rReverse_any {es : List Ch} (hn : es.length ≤ 100000) (hp : ∀ x ∈ es, x.path.length ≤ 100000) {ao : Option Addr} {c : Nat} {l : List HProp} {w : World} (hk : Knows l (reads (.slice ao es.length c) es.length (es.flatMap chC))) (hE : Ent l w) :
    Calls Tryd.prog 27 #[.slice ao es.length c] w (Ret fun v w' => ∃ ao' c', v = .tuple #[.slice ao' (revP es).length c', .int .i64 (revE es)] ∧ Ent (rowRc ao' c' (revP es) :: l) w') := by
  have HM := SL.hid (fun (w : World) (h : Ent l w) => rMay_any hn hp hk h)
  unfold revP revE
  unfold MPost at HM
  cases hb : mayB es with
  | false =>
    rw [hb] at HM
    clear hb
    go_enter Tryd.func27, Tryd.ntmps27
    go_wp2_with (first
      | go_skip
      | (go_at_call 46; refine (HM.out _ hE).mono ?_; clear hE; rintro e w2 ⟨v, h1, h2, hE⟩; cases h1; cases h2))
    refine bodyPost_ret (results_tmp2 rfl _ _ _) rfl ?_
    exact ⟨_, rfl, none, 0, by simp, by simpa [rowRc] using hE.nil _ _⟩
  | true =>
    rw [hb] at HM
    clear hb
    go_enter Tryd.func27, Tryd.ntmps27
    go_wp2_with (first
      | go_skip
      | (go_at_call 46; refine (HM.out _ hE).mono ?_; clear hE; rintro e w2 ⟨v, h1, h2, hE⟩; cases h1; cases h2))
    go_loopw [4, 5] (fun o i wr => RvRel es rowRc l o i wr) (fun _ i _ => es.length - (intOf i).toNat)
    case atStart => exact ⟨0, none, 0, [], Nat.zero_le _, rfl, rfl, rfl, hE.nil _ _⟩
    case round =>
      clear hE
      obtain ⟨k, a1, c1, out, hkl, rfl, hout, rfl, hE⟩ := hrel
      have hol : out.length ≤ 100000 := by
        rw [hout, List.length_map, List.length_take]
        omega
      by_cases hlt : k < es.length
      · obtain ⟨b, off, rfl, hz⟩ := ch_at (hk _ hE.tail) hlt
        clear hz
        have f0 := SL.hid (show ∀ w, Ent l w → _ from fun w h => load_rc (hk w h) hlt)
        have Hst := SL.hid (show (es.take (k + 1)).map swapC = out ++ [swapC es[k]] by rw [List.take_succ_eq_append_getElem hlt, List.map_append, ← hout]; rfl)
        clear hout
        generalize es[k] = x at *
        obtain ⟨xp, ⟨qt, qd, qb⟩, ⟨ut, ud, ub⟩⟩ := x
        simp only [chC, sdC] at f0
        go_wp2
        have hO := hE.drew
        refine wp_region_held_drew (S := (fun w' => ((Instr.loadAt 9 (.pointer (some ⟨b, off + k * 7, none⟩))).run Tryd.prog w' = .ok (.string ⟨xp.toArray⟩) w') ∧ ((Instr.loadAt 39 (.pointer (some ⟨b, off + k * 7 + 1, none⟩))).run Tryd.prog w' = .ok (.agg #[.bool qt, .bool qd, .string ⟨qb.toArray⟩]) w') ∧ ((Instr.loadAt 39 (.pointer (some ⟨b, off + k * 7 + 4, none⟩))).run Tryd.prog w' = .ok (.agg #[.bool ut, .bool ud, .string ⟨ub.toArray⟩]) w'))) (by kernel_rfl) ⟨(f0.out _ (hO.suf sfx)).2.1, (f0.out _ (hO.suf sfx)).2.2.1, (f0.out _ (hO.suf sfx)).2.2.2⟩ (fun hS => ?_)
        refine tV 0 ⟨some 15, .move (.tmp 4), _, _, _, none⟩ hS ?_
        refine tV 1 ⟨some 16, .move (.tmp 0), _, _, _, none⟩ hS ?_
        refine tV 2 ⟨some 17, .move (.tmp 5), _, _, _, none⟩ hS ?_
        refine tV 3 ⟨some 18, .indexAddr 33 (.tmp 16) (.tmp 17), _, _, _, none⟩ hS ?_
        refine tV 4 ⟨some 19, .fieldAddr 74 (.tmp 18) 0, _, _, _, none⟩ hS ?_
        refine tL 5 ⟨some 20, .load 9 (.tmp 19), _, _, _, none⟩ hS ?_
        refine tV 6 ⟨some 21, .move (.tmp 0), _, _, _, none⟩ hS ?_
        refine tV 7 ⟨some 22, .move (.tmp 5), _, _, _, none⟩ hS ?_
        refine tV 8 ⟨some 23, .indexAddr 33 (.tmp 21) (.tmp 22), _, _, _, none⟩ hS ?_
        refine tV 9 ⟨some 24, .fieldAddr 74 (.tmp 23) 2, _, _, _, none⟩ hS ?_
        refine tL 10 ⟨some 25, .load 39 (.tmp 24), _, _, _, none⟩ hS ?_
        refine tV 11 ⟨some 26, .move (.tmp 0), _, _, _, none⟩ hS ?_
        refine tV 12 ⟨some 27, .move (.tmp 5), _, _, _, none⟩ hS ?_
        refine tV 13 ⟨some 28, .indexAddr 33 (.tmp 26) (.tmp 27), _, _, _, none⟩ hS ?_
        refine tV 14 ⟨some 29, .fieldAddr 74 (.tmp 28) 1, _, _, _, none⟩ hS ?_
        refine tL 15 ⟨some 30, .load 39 (.tmp 29), _, _, _, none⟩ hS ?_
        refine tV 16 ⟨some 31, .build 74 #[(0, .tmp 20), (1, .tmp 25), (2, .tmp 30)], _, _, _, none⟩ hS ?_
        refine wpAnyH_ready (rs := [17]) (by kernel_rfl) (by simp) ?_
        refine (AllReadyH.cons (o := ⟨some 32, .buildSlice 33 1 #[(0, .tmp 31)], _, _, _, none⟩) rfl (fun K hK => ?_) AllReadyH.nil)
        (refine step_build1 hO rfl (by rfl) (xs := chC ⟨xp, ⟨ut, ud, ub⟩, ⟨qt, qd, qb⟩⟩) (by rfl) Tryd.underlying33 zs_rch Tryd.sizeOf74 (by decide) (by decide) rfl ?_; clear hO; intro b9 w7 hO)
        refine hK.out _ _ ⟨(f0.out _ (hO.suf sfx)).2.1, (f0.out _ (hO.suf sfx)).2.2.1, (f0.out _ (hO.suf sfx)).2.2.2⟩ (fun hS => ?_)
        clear hK K
        try simp only [Act.put, sb, s0, sz]
        refine wpAnyH_ready (rs := [18]) (by kernel_rfl) (by simp) ?_
        refine (AllReadyH.cons (o := ⟨some 33, .call { callee := .builtin .append, args := #[.tmp 15, .tmp 32], argTypes := #[33, 33] }, _, _, _, none⟩) rfl (fun K hK => ?_) AllReadyH.nil)
        (refine step_appendG hO 1 rfl rfl (by rfl) (by rfl) (by rfl) Tryd.underlying33 info_rch (by decide) (m := 1) (news := chC ⟨xp, ⟨ut, ud, ub⟩, ⟨qt, qd, qb⟩⟩) (reads_pt hO 0 rfl (off := 0) (fun j u hu => by rw [Nat.zero_add, List.getElem?_toArray]; exact hu)) rfl (chC_one _) (by omega) (by omega) ?_; clear hO; intro a7 c7 w8 hO; simp only [List.set_cons_zero, List.set_cons_succ] at hO)
        refine hK.out _ _ ⟨(f0.out _ (hO.suf sfx)).2.1, (f0.out _ (hO.suf sfx)).2.2.1, (f0.out _ (hO.suf sfx)).2.2.2⟩ (fun hS => ?_)
        clear hK K
        try simp only [Act.put, sb, s0, sz]
        refine tV 19 ⟨some 4, .assign (.tmp 33), _, _, _, none⟩ hS ?_
        refine wpAnyH_done (by kernel_rfl) ?_ _
        all_goals
          clear hS hE
          have hE := hO.tail
          clear hO
          go_wp2
          go_roundw
          case rel =>
            refine ⟨k + 1, a7, c7, out ++ [⟨xp, ⟨ut, ud, ub⟩, ⟨qt, qd, qb⟩⟩], hlt, by first | rfl | simp, by rw [Hst.out]; rfl, by simp, ?_⟩
            rw [← rowRc_add]
            exact hE
          case measure => simp [intOf] <;> omega
      · obtain rfl : k = es.length := by omega
        rw [List.take_length] at hout
        have Hl := SL.hid (show (es.map swapC).length = es.length by simp)
        subst hout
        go_wp2
        refine bodyPost_ret (results_tmp2 rfl _ _ _) rfl ?_
        exact ⟨_, rfl, a1, c1, by simp, by simpa using hE⟩
end Go.Proofs.YtcpgelpajppgdaaDoor
