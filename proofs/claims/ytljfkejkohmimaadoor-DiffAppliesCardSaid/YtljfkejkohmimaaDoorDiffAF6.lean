/-
  The program's may. (Printed by gen_dqn.py.)
-/
import Derived.Test.YtljfkejkohmimaaDoorDiffAF5
namespace Go.Proofs.YtljfkejkohmimaaDoor
open Go.RowKit Go.SL

set_option maxRecDepth 100000 in
set_option maxHeartbeats 16000000 in
attribute [-go_sem] Instr.loadAt Go.run_equalIn_agg in
theorem may_any {es : List Ch} (hn : es.length ≤ 100000) (hp : ∀ x ∈ es, x.path.length ≤ 100000) {ao : Option Addr} {c : Nat} {l : List HProp} {w : World} (hk : Knows l (reads (.slice ao es.length c) es.length (es.flatMap chC))) (hE : Ent l w) :
    Calls Tryd.prog 21 #[.slice ao es.length c] w (Ret (MPost es l)) := by
  have Hp := SL.hid hp
  clear hp
  go_enter Tryd.func21, Tryd.ntmps21
  go_wp2
  go_loopw [9] (fun i wr => MyRel es l i wr) (fun i _ => es.length - (intOf i).toNat)
  case atStart => exact ⟨0, Nat.zero_le _, rfl, by simpa using mayR_nil, hE⟩
  case round =>
    clear hE
    obtain ⟨k, hkl, rfl, hpre, hE⟩ := hrel
    by_cases hlt : k < es.length
    · obtain ⟨b, off, rfl, hz⟩ := ch_at (hk _ hE) hlt
      clear hz
      have hld := (load_dc (hk _ hE) hlt).1
      have Hst := SL.hid (mayR_at hlt hpre)
      have hxl := Hp.out es[k] (List.getElem_mem hlt)
      obtain ⟨x, hx⟩ : ∃ x, es[k] = x := ⟨_, rfl⟩
      have HX := SL.hid hx
      rw [hx] at hld Hst hxl
      clear hx hpre
      obtain ⟨xp, ⟨qt, qd, qb⟩, ⟨ut, ud, ub⟩⟩ := x
      simp only [chC] at hld
      simp only at hxl
      have hg : goodC ⟨xp, ⟨qt, qd, qb⟩, ⟨ut, ud, ub⟩⟩ = (splitE xp == 0 && (!(splitL xp).isEmpty && (!((⟨qt, qd, qb⟩ : Sd) == ⟨ut, ud, ub⟩) && (maySd ⟨qt, qd, qb⟩ && maySd ⟨ut, ud, ub⟩)))) := rfl
      have HA := SL.hid (fun (L : List HProp) (w : World) (h : Ent L w) => side_may_any ⟨qt, qd, qb⟩ h)
      have HB := SL.hid (fun (L : List HProp) (w : World) (h : Ent L w) => side_may_any ⟨ut, ud, ub⟩ h)
      have hEq := fun w => eqSd 9998 ⟨qt, qd, qb⟩ ⟨ut, ud, ub⟩ w
      have HS := SL.hid (fun (L : List HProp) (w : World) (h : Ent L w) => Split_any (p := xp) (by omega) h)
      have HO := SL.hid (fun (L : List HProp) (w : World) (q : List UInt8) (hq : q.length ≤ 100000) (h : Ent L w) => Order_any (p := q) (q := xp) hq hxl h)
      simp only [sdV] at HA HB
      simp only [sdC] at hEq
      obtain ⟨lp, hlp⟩ : ∃ lp, splitL xp = lp := ⟨_, rfl⟩
      obtain ⟨er, her⟩ : ∃ er, splitE xp = er := ⟨_, rfl⟩
      rw [hlp] at HS hg
      rw [her] at HS hg
      clear hlp her hxl
      rw [show lp.isEmpty = decide (lp.length = 0) by cases lp <;> simp] at hg
      obtain ⟨n, hln⟩ : ∃ n, lp.length = n := ⟨_, rfl⟩
      rw [hln] at HS hg
      clear hln
      generalize ((⟨qt, qd, qb⟩ : Sd) == ⟨ut, ud, ub⟩) = eq at *
      generalize maySd ⟨qt, qd, qb⟩ = m1 at *
      generalize maySd ⟨ut, ud, ub⟩ = m2 at *
      generalize goodC ⟨xp, ⟨qt, qd, qb⟩, ⟨ut, ud, ub⟩⟩ = g at *
      have Hg := SL.hid hg
      clear hg
      go_wp2_with (first
        | go_skip
        | ((with_reducible (show Go.wpList _ _ _ (Go.Oper.mk _ (.alloc _) _ _ _ _ :: _) _ _)); clear hld; refine wpl_alloc hE rfl rfl (by simp [go_sem]; rfl) ?_; clear hE; intro b4 w hE; simp only [Act.eval, Act.put, List.setIfInBounds_toArray, List.set_cons_zero, List.set_cons_succ, getD_lit, List.getD_cons_succ, List.getD_cons_zero, Value.cells] at hE)
        | ((with_reducible (show Go.wpList _ _ _ (Go.Oper.mk _ (.store 57 _ _) _ _ _ _ :: _) _ _)); (first | (refine wpl_storeW hE 0 rfl rfl rfl (xs := [.string ⟨xp.toArray⟩, .bool qt, .bool qd, .string ⟨qb.toArray⟩, .bool ut, .bool ud, .string ⟨ub.toArray⟩]) rfl rfl Tryd.sizeOf57 rfl (by simp [Value.oneCell']) rfl ?_) | (refine wpl_storeW hE 1 rfl rfl rfl (xs := [.string ⟨xp.toArray⟩, .bool qt, .bool qd, .string ⟨qb.toArray⟩, .bool ut, .bool ud, .string ⟨ub.toArray⟩]) rfl rfl Tryd.sizeOf57 rfl (by simp [Value.oneCell']) rfl ?_) | (refine wpl_storeW hE 2 rfl rfl rfl (xs := [.string ⟨xp.toArray⟩, .bool qt, .bool qd, .string ⟨qb.toArray⟩, .bool ut, .bool ud, .string ⟨ub.toArray⟩]) rfl rfl Tryd.sizeOf57 rfl (by simp [Value.oneCell']) rfl ?_) | (refine wpl_storeW hE 3 rfl rfl rfl (xs := [.string ⟨xp.toArray⟩, .bool qt, .bool qd, .string ⟨qb.toArray⟩, .bool ut, .bool ud, .string ⟨ub.toArray⟩]) rfl rfl Tryd.sizeOf57 rfl (by simp [Value.oneCell']) rfl ?_) | (refine wpl_storeW hE 4 rfl rfl rfl (xs := [.string ⟨xp.toArray⟩, .bool qt, .bool qd, .string ⟨qb.toArray⟩, .bool ut, .bool ud, .string ⟨ub.toArray⟩]) rfl rfl Tryd.sizeOf57 rfl (by simp [Value.oneCell']) rfl ?_) | (refine wpl_storeW hE 5 rfl rfl rfl (xs := [.string ⟨xp.toArray⟩, .bool qt, .bool qd, .string ⟨qb.toArray⟩, .bool ut, .bool ud, .string ⟨ub.toArray⟩]) rfl rfl Tryd.sizeOf57 rfl (by simp [Value.oneCell']) rfl ?_) | (refine wpl_storeW hE 6 rfl rfl rfl (xs := [.string ⟨xp.toArray⟩, .bool qt, .bool qd, .string ⟨qb.toArray⟩, .bool ut, .bool ud, .string ⟨ub.toArray⟩]) rfl rfl Tryd.sizeOf57 rfl (by simp [Value.oneCell']) rfl ?_) | (refine wpl_storeW hE 7 rfl rfl rfl (xs := [.string ⟨xp.toArray⟩, .bool qt, .bool qd, .string ⟨qb.toArray⟩, .bool ut, .bool ud, .string ⟨ub.toArray⟩]) rfl rfl Tryd.sizeOf57 rfl (by simp [Value.oneCell']) rfl ?_)); clear hE; intro w hE; simp only [List.set_cons_zero, List.set_cons_succ] at hE)
        | ((with_reducible (show Go.wpList _ _ _ (Go.Oper.mk _ (.load _ _) _ _ _ _ :: _) _ _)); (first | (refine wpl_load1 hE 0 rfl rfl rfl rfl (by simp [go_sem]) rfl ?_) | (refine wpl_load1 hE 1 rfl rfl rfl rfl (by simp [go_sem]) rfl ?_) | (refine wpl_load1 hE 2 rfl rfl rfl rfl (by simp [go_sem]) rfl ?_) | (refine wpl_load1 hE 3 rfl rfl rfl rfl (by simp [go_sem]) rfl ?_) | (refine wpl_load1 hE 4 rfl rfl rfl rfl (by simp [go_sem]) rfl ?_) | (refine wpl_load1 hE 5 rfl rfl rfl rfl (by simp [go_sem]) rfl ?_) | (refine wpl_load1 hE 6 rfl rfl rfl rfl (by simp [go_sem]) rfl ?_) | (refine wpl_load1 hE 7 rfl rfl rfl rfl (by simp [go_sem]) rfl ?_)))
        | (go_at_call 43; refine (HS.out _ _ hE).mono ?_; clear hE; rintro e w2 ⟨v, h1, a1, c1, h2, hE⟩; cases h1; cases h2))
      have FB := SL.hid (show ∀ w, Ent (pt b4 (.cells #[.string ⟨xp.toArray⟩, .bool qt, .bool qd, .string ⟨qb.toArray⟩, .bool ut, .bool ud, .string ⟨ub.toArray⟩] 57) :: l) w →
          (Instr.loadAt 9 (.pointer (some ⟨b4, 0, none⟩))).run Tryd.prog w = .ok (.string ⟨xp.toArray⟩) w ∧ (Instr.loadAt 55 (.pointer (some ⟨b4, 1, none⟩))).run Tryd.prog w = .ok (.agg #[.bool qt, .bool qd, .string ⟨qb.toArray⟩]) w ∧ (Instr.loadAt 55 (.pointer (some ⟨b4, 4, none⟩))).run Tryd.prog w = .ok (.agg #[.bool ut, .bool ud, .string ⟨ub.toArray⟩]) w from fun w h =>
        ⟨run_load1 h 0 rfl (by simp [go_sem]) rfl, run_loadA h 0 rfl Tryd.isAgg55 Tryd.sizeOf55 (vs := [.bool qt, .bool qd, .string ⟨qb.toArray⟩]) rfl (fun j hj => by match j, hj with | 0, _ => rfl | 1, _ => rfl | 2, _ => rfl), run_loadA h 0 rfl Tryd.isAgg55 Tryd.sizeOf55 (vs := [.bool ut, .bool ud, .string ⟨ub.toArray⟩]) rfl (fun j hj => by match j, hj with | 0, _ => rfl | 1, _ => rfl | 2, _ => rfl)⟩)
      cases hne : (er != 0)
      case' true =>
        have Hb := SL.hid (show g = false by rw [Hg.out]; have he : (er == 0) = false := by simpa using hne
                                             rw [he, Bool.false_and])
        have hO := hE.drew
        refine wp_region_held_drew (S := (fun w' => ((Instr.loadAt 9 (.pointer (some ⟨b4, 0, none⟩))).run Tryd.prog w' = .ok (.string ⟨xp.toArray⟩) w') ∧ ((Instr.loadAt 55 (.pointer (some ⟨b4, 1, none⟩))).run Tryd.prog w' = .ok (.agg #[.bool qt, .bool qd, .string ⟨qb.toArray⟩]) w') ∧ ((Instr.loadAt 55 (.pointer (some ⟨b4, 4, none⟩))).run Tryd.prog w' = .ok (.agg #[.bool ut, .bool ud, .string ⟨ub.toArray⟩]) w'))) (by kernel_rfl) ⟨(FB.out _ (hO.suf sfx)).1, (FB.out _ (hO.suf sfx)).2.1, (FB.out _ (hO.suf sfx)).2.2⟩ (fun hS => ?_)
        refine tV 0 ⟨some 20, .move (.tmp 6), _, _, _, none⟩ hS ?_
        refine tV 1 ⟨some 21, .binOp .neq 31 (.tmp 20) (.const (.int .i64 0)) 31, _, _, _, none⟩ hS ?_
        refine tV 2 ⟨some 22, .move (.tmp 21), _, _, _, none⟩ hS ?_
        refine tU 3 ⟨some 23, .move (.tmp 5), _, _, _, some (2, false)⟩ hS ?_
        refine tU 4 ⟨some 24, .call { callee := .builtin .len, args := #[.tmp 23], argTypes := #[72] }, _, _, _, some (2, false)⟩ hS ?_
        refine tU 5 ⟨some 25, .binOp .eql 3 (.tmp 24) (.const (.int .i64 0)) 3, _, _, _, some (2, false)⟩ hS ?_
        refine tV 6 ⟨some 26, .pick (.tmp 22) (.const (.bool true)) (.tmp 25), _, _, _, none⟩ hS ?_
        refine tV 7 ⟨some 27, .move (.tmp 26), _, _, _, none⟩ hS ?_
        refine tU 8 ⟨some 28, .move (.tmp 3), _, _, _, some (7, false)⟩ hS ?_
        refine tU 9 ⟨some 29, .binOp .gtr 3 (.tmp 28) (.const (.int .i64 0)) 3, _, _, _, some (7, false)⟩ hS ?_
        refine tU 10 ⟨some 30, .move (.tmp 29), _, _, _, some (7, false)⟩ hS ?_
        refine tU 11 ⟨some 31, .move (.tmp 0), _, _, _, some (10, true)⟩ hS ?_
        refine tU 12 ⟨some 32, .move (.tmp 3), _, _, _, some (10, true)⟩ hS ?_
        refine tU 13 ⟨some 33, .binOp .sub 3 (.tmp 32) (.const (.int .i64 1)) 3, _, _, _, some (10, true)⟩ hS ?_
        refine tU 14 ⟨some 34, .indexAddr 34 (.tmp 31) (.tmp 33), _, _, _, some (10, true)⟩ hS ?_
        refine tU 15 ⟨some 35, .fieldAddr 57 (.tmp 34) 0, _, _, _, some (10, true)⟩ hS ?_
        refine tU 16 ⟨some 36, .load 9 (.tmp 35), _, _, _, some (10, true)⟩ hS ?_
        refine tU 17 ⟨some 37, .fieldAddr 57 (.tmp 4) 0, _, _, _, some (10, true)⟩ hS ?_
        refine tU 18 ⟨some 38, .load 9 (.tmp 37), _, _, _, some (10, true)⟩ hS ?_
        refine tU 19 ⟨some 39, .call { callee := .value (.func 19), args := #[.tmp 36, .tmp 38], argTypes := #[9, 9] }, _, _, _, some (10, true)⟩ hS ?_
        refine tU 20 ⟨some 40, .binOp .geq 3 (.tmp 39) (.const (.int .i64 0)) 3, _, _, _, some (10, true)⟩ hS ?_
        refine tU 21 ⟨some 41, .pick (.tmp 30) (.tmp 40) (.const (.bool false)), _, _, _, some (7, false)⟩ hS ?_
        refine tV 22 ⟨some 42, .pick (.tmp 27) (.const (.bool true)) (.tmp 41), _, _, _, none⟩ hS ?_
        refine tV 23 ⟨some 43, .move (.tmp 42), _, _, _, none⟩ hS ?_
        refine tU 24 ⟨some 44, .fieldAddr 57 (.tmp 4) 1, _, _, _, some (23, false)⟩ hS ?_
        refine tU 25 ⟨some 45, .load 55 (.tmp 44), _, _, _, some (23, false)⟩ hS ?_
        refine tU 26 ⟨some 46, .fieldAddr 57 (.tmp 4) 2, _, _, _, some (23, false)⟩ hS ?_
        refine tU 27 ⟨some 47, .load 55 (.tmp 46), _, _, _, some (23, false)⟩ hS ?_
        refine tU 28 ⟨some 48, .binOp .eql 55 (.tmp 45) (.tmp 47) 55, _, _, _, some (23, false)⟩ hS ?_
        refine tV 29 ⟨some 49, .pick (.tmp 43) (.const (.bool true)) (.tmp 48), _, _, _, none⟩ hS ?_
        refine tV 30 ⟨some 50, .move (.tmp 49), _, _, _, none⟩ hS ?_
        refine tU 31 ⟨some 51, .fieldAddr 57 (.tmp 4) 1, _, _, _, some (30, false)⟩ hS ?_
        refine tU 32 ⟨some 52, .load 55 (.tmp 51), _, _, _, some (30, false)⟩ hS ?_
        refine tU 33 ⟨some 53, .call { callee := .value (.func 49), args := #[.tmp 52], argTypes := #[55] }, _, _, _, some (30, false)⟩ hS ?_
        refine tU 34 ⟨some 54, .unOp Go.UnOp.not 4 (.tmp 53), _, _, _, some (30, false)⟩ hS ?_
        refine tV 35 ⟨some 55, .pick (.tmp 50) (.const (.bool true)) (.tmp 54), _, _, _, none⟩ hS ?_
        refine tV 36 ⟨some 56, .move (.tmp 55), _, _, _, none⟩ hS ?_
        refine tU 37 ⟨some 57, .fieldAddr 57 (.tmp 4) 2, _, _, _, some (36, false)⟩ hS ?_
        refine tU 38 ⟨some 58, .load 55 (.tmp 57), _, _, _, some (36, false)⟩ hS ?_
        refine tU 39 ⟨some 59, .call { callee := .value (.func 49), args := #[.tmp 58], argTypes := #[55] }, _, _, _, some (36, false)⟩ hS ?_
        refine tU 40 ⟨some 60, .unOp Go.UnOp.not 4 (.tmp 59), _, _, _, some (36, false)⟩ hS ?_
        refine tV 41 ⟨some 61, .pick (.tmp 56) (.const (.bool true)) (.tmp 60), _, _, _, none⟩ hS ?_
        refine wpAnyH_done (by kernel_rfl) ?_ _
        all_goals
          clear hS hE
          have hE := hO.tail.tail
          clear hO
          go_wp2
          refine bodyPost_ret (results_tmp rfl _ _ _) rfl ?_
          exact ⟨_, rfl, .mk false hE (iff_of_false (by decide) (fun h => by have := (Hst.out.2 h).1; rw [Hb.out] at this; cases this))⟩
      obtain rfl : er = 0 := by simpa using hne
      clear hne
      cases n
      case' zero =>
        have Hb := SL.hid (show g = false by rw [Hg.out]; simp)
        have hO := hE.drew
        refine wp_region_held_drew (S := (fun w' => ((Instr.loadAt 9 (.pointer (some ⟨b4, 0, none⟩))).run Tryd.prog w' = .ok (.string ⟨xp.toArray⟩) w') ∧ ((Instr.loadAt 55 (.pointer (some ⟨b4, 1, none⟩))).run Tryd.prog w' = .ok (.agg #[.bool qt, .bool qd, .string ⟨qb.toArray⟩]) w') ∧ ((Instr.loadAt 55 (.pointer (some ⟨b4, 4, none⟩))).run Tryd.prog w' = .ok (.agg #[.bool ut, .bool ud, .string ⟨ub.toArray⟩]) w'))) (by kernel_rfl) ⟨(FB.out _ (hO.suf sfx)).1, (FB.out _ (hO.suf sfx)).2.1, (FB.out _ (hO.suf sfx)).2.2⟩ (fun hS => ?_)
        refine tV 0 ⟨some 20, .move (.tmp 6), _, _, _, none⟩ hS ?_
        refine tV 1 ⟨some 21, .binOp .neq 31 (.tmp 20) (.const (.int .i64 0)) 31, _, _, _, none⟩ hS ?_
        refine tV 2 ⟨some 22, .move (.tmp 21), _, _, _, none⟩ hS ?_
        refine tV 3 ⟨some 23, .move (.tmp 5), _, _, _, some (2, false)⟩ hS ?_
        refine tV 4 ⟨some 24, .call { callee := .builtin .len, args := #[.tmp 23], argTypes := #[72] }, _, _, _, some (2, false)⟩ hS ?_
        refine tV 5 ⟨some 25, .binOp .eql 3 (.tmp 24) (.const (.int .i64 0)) 3, _, _, _, some (2, false)⟩ hS ?_
        refine tV 6 ⟨some 26, .pick (.tmp 22) (.const (.bool true)) (.tmp 25), _, _, _, none⟩ hS ?_
        refine tV 7 ⟨some 27, .move (.tmp 26), _, _, _, none⟩ hS ?_
        refine tU 8 ⟨some 28, .move (.tmp 3), _, _, _, some (7, false)⟩ hS ?_
        refine tU 9 ⟨some 29, .binOp .gtr 3 (.tmp 28) (.const (.int .i64 0)) 3, _, _, _, some (7, false)⟩ hS ?_
        refine tU 10 ⟨some 30, .move (.tmp 29), _, _, _, some (7, false)⟩ hS ?_
        refine tU 11 ⟨some 31, .move (.tmp 0), _, _, _, some (10, true)⟩ hS ?_
        refine tU 12 ⟨some 32, .move (.tmp 3), _, _, _, some (10, true)⟩ hS ?_
        refine tU 13 ⟨some 33, .binOp .sub 3 (.tmp 32) (.const (.int .i64 1)) 3, _, _, _, some (10, true)⟩ hS ?_
        refine tU 14 ⟨some 34, .indexAddr 34 (.tmp 31) (.tmp 33), _, _, _, some (10, true)⟩ hS ?_
        refine tU 15 ⟨some 35, .fieldAddr 57 (.tmp 34) 0, _, _, _, some (10, true)⟩ hS ?_
        refine tU 16 ⟨some 36, .load 9 (.tmp 35), _, _, _, some (10, true)⟩ hS ?_
        refine tU 17 ⟨some 37, .fieldAddr 57 (.tmp 4) 0, _, _, _, some (10, true)⟩ hS ?_
        refine tU 18 ⟨some 38, .load 9 (.tmp 37), _, _, _, some (10, true)⟩ hS ?_
        refine tU 19 ⟨some 39, .call { callee := .value (.func 19), args := #[.tmp 36, .tmp 38], argTypes := #[9, 9] }, _, _, _, some (10, true)⟩ hS ?_
        refine tU 20 ⟨some 40, .binOp .geq 3 (.tmp 39) (.const (.int .i64 0)) 3, _, _, _, some (10, true)⟩ hS ?_
        refine tU 21 ⟨some 41, .pick (.tmp 30) (.tmp 40) (.const (.bool false)), _, _, _, some (7, false)⟩ hS ?_
        refine tV 22 ⟨some 42, .pick (.tmp 27) (.const (.bool true)) (.tmp 41), _, _, _, none⟩ hS ?_
        refine tV 23 ⟨some 43, .move (.tmp 42), _, _, _, none⟩ hS ?_
        refine tU 24 ⟨some 44, .fieldAddr 57 (.tmp 4) 1, _, _, _, some (23, false)⟩ hS ?_
        refine tU 25 ⟨some 45, .load 55 (.tmp 44), _, _, _, some (23, false)⟩ hS ?_
        refine tU 26 ⟨some 46, .fieldAddr 57 (.tmp 4) 2, _, _, _, some (23, false)⟩ hS ?_
        refine tU 27 ⟨some 47, .load 55 (.tmp 46), _, _, _, some (23, false)⟩ hS ?_
        refine tU 28 ⟨some 48, .binOp .eql 55 (.tmp 45) (.tmp 47) 55, _, _, _, some (23, false)⟩ hS ?_
        refine tV 29 ⟨some 49, .pick (.tmp 43) (.const (.bool true)) (.tmp 48), _, _, _, none⟩ hS ?_
        refine tV 30 ⟨some 50, .move (.tmp 49), _, _, _, none⟩ hS ?_
        refine tU 31 ⟨some 51, .fieldAddr 57 (.tmp 4) 1, _, _, _, some (30, false)⟩ hS ?_
        refine tU 32 ⟨some 52, .load 55 (.tmp 51), _, _, _, some (30, false)⟩ hS ?_
        refine tU 33 ⟨some 53, .call { callee := .value (.func 49), args := #[.tmp 52], argTypes := #[55] }, _, _, _, some (30, false)⟩ hS ?_
        refine tU 34 ⟨some 54, .unOp Go.UnOp.not 4 (.tmp 53), _, _, _, some (30, false)⟩ hS ?_
        refine tV 35 ⟨some 55, .pick (.tmp 50) (.const (.bool true)) (.tmp 54), _, _, _, none⟩ hS ?_
        refine tV 36 ⟨some 56, .move (.tmp 55), _, _, _, none⟩ hS ?_
        refine tU 37 ⟨some 57, .fieldAddr 57 (.tmp 4) 2, _, _, _, some (36, false)⟩ hS ?_
        refine tU 38 ⟨some 58, .load 55 (.tmp 57), _, _, _, some (36, false)⟩ hS ?_
        refine tU 39 ⟨some 59, .call { callee := .value (.func 49), args := #[.tmp 58], argTypes := #[55] }, _, _, _, some (36, false)⟩ hS ?_
        refine tU 40 ⟨some 60, .unOp Go.UnOp.not 4 (.tmp 59), _, _, _, some (36, false)⟩ hS ?_
        refine tV 41 ⟨some 61, .pick (.tmp 56) (.const (.bool true)) (.tmp 60), _, _, _, none⟩ hS ?_
        refine wpAnyH_done (by kernel_rfl) ?_ _
        all_goals
          clear hS hE
          have hE := hO.tail.tail
          clear hO
          go_wp2
          refine bodyPost_ret (results_tmp rfl _ _ _) rfl ?_
          exact ⟨_, rfl, .mk false hE (iff_of_false (by decide) (fun h => by have := (Hst.out.2 h).1; rw [Hb.out] at this; cases this))⟩
      next n =>
      have hnz : ((n : Int) + 1 == 0) = false := by rw [beq_eq_false_iff_ne]; omega
      cases k with
      | zero =>
        cases eq
        case' true =>
          have Hb := SL.hid (show g = false by rw [Hg.out]; simp)
          have hO := hE.drew
          refine wp_region_held_drew (S := (fun w' => ((Instr.loadAt 9 (.pointer (some ⟨b4, 0, none⟩))).run Tryd.prog w' = .ok (.string ⟨xp.toArray⟩) w') ∧ ((Instr.loadAt 55 (.pointer (some ⟨b4, 1, none⟩))).run Tryd.prog w' = .ok (.agg #[.bool qt, .bool qd, .string ⟨qb.toArray⟩]) w') ∧ ((Instr.loadAt 55 (.pointer (some ⟨b4, 4, none⟩))).run Tryd.prog w' = .ok (.agg #[.bool ut, .bool ud, .string ⟨ub.toArray⟩]) w'))) (by kernel_rfl) ⟨(FB.out _ (hO.suf sfx)).1, (FB.out _ (hO.suf sfx)).2.1, (FB.out _ (hO.suf sfx)).2.2⟩ (fun hS => ?_)
          refine tV 0 ⟨some 20, .move (.tmp 6), _, _, _, none⟩ hS ?_
          refine tV 1 ⟨some 21, .binOp .neq 31 (.tmp 20) (.const (.int .i64 0)) 31, _, _, _, none⟩ hS ?_
          refine tV 2 ⟨some 22, .move (.tmp 21), _, _, _, none⟩ hS ?_
          refine tV 3 ⟨some 23, .move (.tmp 5), _, _, _, some (2, false)⟩ hS ?_
          refine tV 4 ⟨some 24, .call { callee := .builtin .len, args := #[.tmp 23], argTypes := #[72] }, _, _, _, some (2, false)⟩ hS ?_
          refine tV 5 ⟨some 25, .binOp .eql 3 (.tmp 24) (.const (.int .i64 0)) 3, _, _, _, some (2, false)⟩ hS ?_
          refine tV 6 ⟨some 26, .pick (.tmp 22) (.const (.bool true)) (.tmp 25), _, _, _, none⟩ hS ?_
          refine tV 7 ⟨some 27, .move (.tmp 26), _, _, _, none⟩ hS ?_
          refine tV 8 ⟨some 28, .move (.tmp 3), _, _, _, some (7, false)⟩ hS ?_
          refine tV 9 ⟨some 29, .binOp .gtr 3 (.tmp 28) (.const (.int .i64 0)) 3, _, _, _, some (7, false)⟩ hS ?_
          refine tV 10 ⟨some 30, .move (.tmp 29), _, _, _, some (7, false)⟩ hS ?_
          refine tU 11 ⟨some 31, .move (.tmp 0), _, _, _, some (10, true)⟩ hS ?_
          refine tU 12 ⟨some 32, .move (.tmp 3), _, _, _, some (10, true)⟩ hS ?_
          refine tU 13 ⟨some 33, .binOp .sub 3 (.tmp 32) (.const (.int .i64 1)) 3, _, _, _, some (10, true)⟩ hS ?_
          refine tU 14 ⟨some 34, .indexAddr 34 (.tmp 31) (.tmp 33), _, _, _, some (10, true)⟩ hS ?_
          refine tU 15 ⟨some 35, .fieldAddr 57 (.tmp 34) 0, _, _, _, some (10, true)⟩ hS ?_
          refine tU 16 ⟨some 36, .load 9 (.tmp 35), _, _, _, some (10, true)⟩ hS ?_
          refine tU 17 ⟨some 37, .fieldAddr 57 (.tmp 4) 0, _, _, _, some (10, true)⟩ hS ?_
          refine tU 18 ⟨some 38, .load 9 (.tmp 37), _, _, _, some (10, true)⟩ hS ?_
          refine tU 19 ⟨some 39, .call { callee := .value (.func 19), args := #[.tmp 36, .tmp 38], argTypes := #[9, 9] }, _, _, _, some (10, true)⟩ hS ?_
          refine tU 20 ⟨some 40, .binOp .geq 3 (.tmp 39) (.const (.int .i64 0)) 3, _, _, _, some (10, true)⟩ hS ?_
          refine tV 21 ⟨some 41, .pick (.tmp 30) (.tmp 40) (.const (.bool false)), _, _, _, some (7, false)⟩ hS ?_
          refine tV 22 ⟨some 42, .pick (.tmp 27) (.const (.bool true)) (.tmp 41), _, _, _, none⟩ hS ?_
          refine tV 23 ⟨some 43, .move (.tmp 42), _, _, _, none⟩ hS ?_
          refine tV 24 ⟨some 44, .fieldAddr 57 (.tmp 4) 1, _, _, _, some (23, false)⟩ hS ?_
          refine tL 25 ⟨some 45, .load 55 (.tmp 44), _, _, _, some (23, false)⟩ hS ?_
          refine tV 26 ⟨some 46, .fieldAddr 57 (.tmp 4) 2, _, _, _, some (23, false)⟩ hS ?_
          refine tL 27 ⟨some 47, .load 55 (.tmp 46), _, _, _, some (23, false)⟩ hS ?_
          refine tV 28 ⟨some 48, .binOp .eql 55 (.tmp 45) (.tmp 47) 55, _, _, _, some (23, false)⟩ hS ?_
          refine tV 29 ⟨some 49, .pick (.tmp 43) (.const (.bool true)) (.tmp 48), _, _, _, none⟩ hS ?_
          refine tV 30 ⟨some 50, .move (.tmp 49), _, _, _, none⟩ hS ?_
          refine tU 31 ⟨some 51, .fieldAddr 57 (.tmp 4) 1, _, _, _, some (30, false)⟩ hS ?_
          refine tU 32 ⟨some 52, .load 55 (.tmp 51), _, _, _, some (30, false)⟩ hS ?_
          refine tU 33 ⟨some 53, .call { callee := .value (.func 49), args := #[.tmp 52], argTypes := #[55] }, _, _, _, some (30, false)⟩ hS ?_
          refine tU 34 ⟨some 54, .unOp Go.UnOp.not 4 (.tmp 53), _, _, _, some (30, false)⟩ hS ?_
          refine tV 35 ⟨some 55, .pick (.tmp 50) (.const (.bool true)) (.tmp 54), _, _, _, none⟩ hS ?_
          refine tV 36 ⟨some 56, .move (.tmp 55), _, _, _, none⟩ hS ?_
          refine tU 37 ⟨some 57, .fieldAddr 57 (.tmp 4) 2, _, _, _, some (36, false)⟩ hS ?_
          refine tU 38 ⟨some 58, .load 55 (.tmp 57), _, _, _, some (36, false)⟩ hS ?_
          refine tU 39 ⟨some 59, .call { callee := .value (.func 49), args := #[.tmp 58], argTypes := #[55] }, _, _, _, some (36, false)⟩ hS ?_
          refine tU 40 ⟨some 60, .unOp Go.UnOp.not 4 (.tmp 59), _, _, _, some (36, false)⟩ hS ?_
          refine tV 41 ⟨some 61, .pick (.tmp 56) (.const (.bool true)) (.tmp 60), _, _, _, none⟩ hS ?_
          refine wpAnyH_done (by kernel_rfl) ?_ _
          all_goals
            clear hS hE
            have hE := hO.tail.tail
            clear hO
            go_wp2
            refine bodyPost_ret (results_tmp rfl _ _ _) rfl ?_
            exact ⟨_, rfl, .mk false hE (iff_of_false (by decide) (fun h => by have := (Hst.out.2 h).1; rw [Hb.out] at this; cases this))⟩
        cases m1
        case' false =>
          have Hb := SL.hid (show g = false by rw [Hg.out]; simp)
          have hO := hE.drew
          refine wp_region_held_drew (S := (fun w' => ((Instr.loadAt 9 (.pointer (some ⟨b4, 0, none⟩))).run Tryd.prog w' = .ok (.string ⟨xp.toArray⟩) w') ∧ ((Instr.loadAt 55 (.pointer (some ⟨b4, 1, none⟩))).run Tryd.prog w' = .ok (.agg #[.bool qt, .bool qd, .string ⟨qb.toArray⟩]) w') ∧ ((Instr.loadAt 55 (.pointer (some ⟨b4, 4, none⟩))).run Tryd.prog w' = .ok (.agg #[.bool ut, .bool ud, .string ⟨ub.toArray⟩]) w'))) (by kernel_rfl) ⟨(FB.out _ (hO.suf sfx)).1, (FB.out _ (hO.suf sfx)).2.1, (FB.out _ (hO.suf sfx)).2.2⟩ (fun hS => ?_)
          refine tV 0 ⟨some 20, .move (.tmp 6), _, _, _, none⟩ hS ?_
          refine tV 1 ⟨some 21, .binOp .neq 31 (.tmp 20) (.const (.int .i64 0)) 31, _, _, _, none⟩ hS ?_
          refine tV 2 ⟨some 22, .move (.tmp 21), _, _, _, none⟩ hS ?_
          refine tV 3 ⟨some 23, .move (.tmp 5), _, _, _, some (2, false)⟩ hS ?_
          refine tV 4 ⟨some 24, .call { callee := .builtin .len, args := #[.tmp 23], argTypes := #[72] }, _, _, _, some (2, false)⟩ hS ?_
          refine tV 5 ⟨some 25, .binOp .eql 3 (.tmp 24) (.const (.int .i64 0)) 3, _, _, _, some (2, false)⟩ hS ?_
          refine tV 6 ⟨some 26, .pick (.tmp 22) (.const (.bool true)) (.tmp 25), _, _, _, none⟩ hS ?_
          refine tV 7 ⟨some 27, .move (.tmp 26), _, _, _, none⟩ hS ?_
          refine tV 8 ⟨some 28, .move (.tmp 3), _, _, _, some (7, false)⟩ hS ?_
          refine tV 9 ⟨some 29, .binOp .gtr 3 (.tmp 28) (.const (.int .i64 0)) 3, _, _, _, some (7, false)⟩ hS ?_
          refine tV 10 ⟨some 30, .move (.tmp 29), _, _, _, some (7, false)⟩ hS ?_
          refine tU 11 ⟨some 31, .move (.tmp 0), _, _, _, some (10, true)⟩ hS ?_
          refine tU 12 ⟨some 32, .move (.tmp 3), _, _, _, some (10, true)⟩ hS ?_
          refine tU 13 ⟨some 33, .binOp .sub 3 (.tmp 32) (.const (.int .i64 1)) 3, _, _, _, some (10, true)⟩ hS ?_
          refine tU 14 ⟨some 34, .indexAddr 34 (.tmp 31) (.tmp 33), _, _, _, some (10, true)⟩ hS ?_
          refine tU 15 ⟨some 35, .fieldAddr 57 (.tmp 34) 0, _, _, _, some (10, true)⟩ hS ?_
          refine tU 16 ⟨some 36, .load 9 (.tmp 35), _, _, _, some (10, true)⟩ hS ?_
          refine tU 17 ⟨some 37, .fieldAddr 57 (.tmp 4) 0, _, _, _, some (10, true)⟩ hS ?_
          refine tU 18 ⟨some 38, .load 9 (.tmp 37), _, _, _, some (10, true)⟩ hS ?_
          refine tU 19 ⟨some 39, .call { callee := .value (.func 19), args := #[.tmp 36, .tmp 38], argTypes := #[9, 9] }, _, _, _, some (10, true)⟩ hS ?_
          refine tU 20 ⟨some 40, .binOp .geq 3 (.tmp 39) (.const (.int .i64 0)) 3, _, _, _, some (10, true)⟩ hS ?_
          refine tV 21 ⟨some 41, .pick (.tmp 30) (.tmp 40) (.const (.bool false)), _, _, _, some (7, false)⟩ hS ?_
          refine tV 22 ⟨some 42, .pick (.tmp 27) (.const (.bool true)) (.tmp 41), _, _, _, none⟩ hS ?_
          refine tV 23 ⟨some 43, .move (.tmp 42), _, _, _, none⟩ hS ?_
          refine tV 24 ⟨some 44, .fieldAddr 57 (.tmp 4) 1, _, _, _, some (23, false)⟩ hS ?_
          refine tL 25 ⟨some 45, .load 55 (.tmp 44), _, _, _, some (23, false)⟩ hS ?_
          refine tV 26 ⟨some 46, .fieldAddr 57 (.tmp 4) 2, _, _, _, some (23, false)⟩ hS ?_
          refine tL 27 ⟨some 47, .load 55 (.tmp 46), _, _, _, some (23, false)⟩ hS ?_
          refine tV 28 ⟨some 48, .binOp .eql 55 (.tmp 45) (.tmp 47) 55, _, _, _, some (23, false)⟩ hS ?_
          refine tV 29 ⟨some 49, .pick (.tmp 43) (.const (.bool true)) (.tmp 48), _, _, _, none⟩ hS ?_
          refine tV 30 ⟨some 50, .move (.tmp 49), _, _, _, none⟩ hS ?_
          refine tV 31 ⟨some 51, .fieldAddr 57 (.tmp 4) 1, _, _, _, some (30, false)⟩ hS ?_
          refine tL 32 ⟨some 52, .load 55 (.tmp 51), _, _, _, some (30, false)⟩ hS ?_
          refine wpAnyH_ready (rs := [33]) (by kernel_rfl) (by simp) ?_
          refine (AllReadyH.cons (o := ⟨some 53, .call { callee := .value (.func 49), args := #[.tmp 52], argTypes := #[55] }, _, _, _, some (30, false)⟩) rfl (fun K hK => ?_) AllReadyH.nil)
          (go_simp; refine (HA.out _ _ hO).mono ?_; clear hO; rintro e w5 ⟨v, h1, h2, hO⟩; cases h1; cases h2)
          refine hK.out _ _ ⟨(FB.out _ (hO.suf sfx)).1, (FB.out _ (hO.suf sfx)).2.1, (FB.out _ (hO.suf sfx)).2.2⟩ (fun hS => ?_)
          clear hK K
          try simp only [Act.put, sb, s0, sz]
          refine tV 34 ⟨some 54, .unOp Go.UnOp.not 4 (.tmp 53), _, _, _, some (30, false)⟩ hS ?_
          refine tV 35 ⟨some 55, .pick (.tmp 50) (.const (.bool true)) (.tmp 54), _, _, _, none⟩ hS ?_
          refine tV 36 ⟨some 56, .move (.tmp 55), _, _, _, none⟩ hS ?_
          refine tU 37 ⟨some 57, .fieldAddr 57 (.tmp 4) 2, _, _, _, some (36, false)⟩ hS ?_
          refine tU 38 ⟨some 58, .load 55 (.tmp 57), _, _, _, some (36, false)⟩ hS ?_
          refine tU 39 ⟨some 59, .call { callee := .value (.func 49), args := #[.tmp 58], argTypes := #[55] }, _, _, _, some (36, false)⟩ hS ?_
          refine tU 40 ⟨some 60, .unOp Go.UnOp.not 4 (.tmp 59), _, _, _, some (36, false)⟩ hS ?_
          refine tV 41 ⟨some 61, .pick (.tmp 56) (.const (.bool true)) (.tmp 60), _, _, _, none⟩ hS ?_
          refine wpAnyH_done (by kernel_rfl) ?_ _
          all_goals
            clear hS hE
            have hE := hO.tail.tail
            clear hO
            go_wp2
            refine bodyPost_ret (results_tmp rfl _ _ _) rfl ?_
            exact ⟨_, rfl, .mk false hE (iff_of_false (by decide) (fun h => by have := (Hst.out.2 h).1; rw [Hb.out] at this; cases this))⟩
        cases m2
        case' false =>
          have Hb := SL.hid (show g = false by rw [Hg.out]; simp)
          have hO := hE.drew
          refine wp_region_held_drew (S := (fun w' => ((Instr.loadAt 9 (.pointer (some ⟨b4, 0, none⟩))).run Tryd.prog w' = .ok (.string ⟨xp.toArray⟩) w') ∧ ((Instr.loadAt 55 (.pointer (some ⟨b4, 1, none⟩))).run Tryd.prog w' = .ok (.agg #[.bool qt, .bool qd, .string ⟨qb.toArray⟩]) w') ∧ ((Instr.loadAt 55 (.pointer (some ⟨b4, 4, none⟩))).run Tryd.prog w' = .ok (.agg #[.bool ut, .bool ud, .string ⟨ub.toArray⟩]) w'))) (by kernel_rfl) ⟨(FB.out _ (hO.suf sfx)).1, (FB.out _ (hO.suf sfx)).2.1, (FB.out _ (hO.suf sfx)).2.2⟩ (fun hS => ?_)
          refine tV 0 ⟨some 20, .move (.tmp 6), _, _, _, none⟩ hS ?_
          refine tV 1 ⟨some 21, .binOp .neq 31 (.tmp 20) (.const (.int .i64 0)) 31, _, _, _, none⟩ hS ?_
          refine tV 2 ⟨some 22, .move (.tmp 21), _, _, _, none⟩ hS ?_
          refine tV 3 ⟨some 23, .move (.tmp 5), _, _, _, some (2, false)⟩ hS ?_
          refine tV 4 ⟨some 24, .call { callee := .builtin .len, args := #[.tmp 23], argTypes := #[72] }, _, _, _, some (2, false)⟩ hS ?_
          refine tV 5 ⟨some 25, .binOp .eql 3 (.tmp 24) (.const (.int .i64 0)) 3, _, _, _, some (2, false)⟩ hS ?_
          refine tV 6 ⟨some 26, .pick (.tmp 22) (.const (.bool true)) (.tmp 25), _, _, _, none⟩ hS ?_
          refine tV 7 ⟨some 27, .move (.tmp 26), _, _, _, none⟩ hS ?_
          refine tV 8 ⟨some 28, .move (.tmp 3), _, _, _, some (7, false)⟩ hS ?_
          refine tV 9 ⟨some 29, .binOp .gtr 3 (.tmp 28) (.const (.int .i64 0)) 3, _, _, _, some (7, false)⟩ hS ?_
          refine tV 10 ⟨some 30, .move (.tmp 29), _, _, _, some (7, false)⟩ hS ?_
          refine tU 11 ⟨some 31, .move (.tmp 0), _, _, _, some (10, true)⟩ hS ?_
          refine tU 12 ⟨some 32, .move (.tmp 3), _, _, _, some (10, true)⟩ hS ?_
          refine tU 13 ⟨some 33, .binOp .sub 3 (.tmp 32) (.const (.int .i64 1)) 3, _, _, _, some (10, true)⟩ hS ?_
          refine tU 14 ⟨some 34, .indexAddr 34 (.tmp 31) (.tmp 33), _, _, _, some (10, true)⟩ hS ?_
          refine tU 15 ⟨some 35, .fieldAddr 57 (.tmp 34) 0, _, _, _, some (10, true)⟩ hS ?_
          refine tU 16 ⟨some 36, .load 9 (.tmp 35), _, _, _, some (10, true)⟩ hS ?_
          refine tU 17 ⟨some 37, .fieldAddr 57 (.tmp 4) 0, _, _, _, some (10, true)⟩ hS ?_
          refine tU 18 ⟨some 38, .load 9 (.tmp 37), _, _, _, some (10, true)⟩ hS ?_
          refine tU 19 ⟨some 39, .call { callee := .value (.func 19), args := #[.tmp 36, .tmp 38], argTypes := #[9, 9] }, _, _, _, some (10, true)⟩ hS ?_
          refine tU 20 ⟨some 40, .binOp .geq 3 (.tmp 39) (.const (.int .i64 0)) 3, _, _, _, some (10, true)⟩ hS ?_
          refine tV 21 ⟨some 41, .pick (.tmp 30) (.tmp 40) (.const (.bool false)), _, _, _, some (7, false)⟩ hS ?_
          refine tV 22 ⟨some 42, .pick (.tmp 27) (.const (.bool true)) (.tmp 41), _, _, _, none⟩ hS ?_
          refine tV 23 ⟨some 43, .move (.tmp 42), _, _, _, none⟩ hS ?_
          refine tV 24 ⟨some 44, .fieldAddr 57 (.tmp 4) 1, _, _, _, some (23, false)⟩ hS ?_
          refine tL 25 ⟨some 45, .load 55 (.tmp 44), _, _, _, some (23, false)⟩ hS ?_
          refine tV 26 ⟨some 46, .fieldAddr 57 (.tmp 4) 2, _, _, _, some (23, false)⟩ hS ?_
          refine tL 27 ⟨some 47, .load 55 (.tmp 46), _, _, _, some (23, false)⟩ hS ?_
          refine tV 28 ⟨some 48, .binOp .eql 55 (.tmp 45) (.tmp 47) 55, _, _, _, some (23, false)⟩ hS ?_
          refine tV 29 ⟨some 49, .pick (.tmp 43) (.const (.bool true)) (.tmp 48), _, _, _, none⟩ hS ?_
          refine tV 30 ⟨some 50, .move (.tmp 49), _, _, _, none⟩ hS ?_
          refine tV 31 ⟨some 51, .fieldAddr 57 (.tmp 4) 1, _, _, _, some (30, false)⟩ hS ?_
          refine tL 32 ⟨some 52, .load 55 (.tmp 51), _, _, _, some (30, false)⟩ hS ?_
          refine wpAnyH_ready (rs := [33]) (by kernel_rfl) (by simp) ?_
          refine (AllReadyH.cons (o := ⟨some 53, .call { callee := .value (.func 49), args := #[.tmp 52], argTypes := #[55] }, _, _, _, some (30, false)⟩) rfl (fun K hK => ?_) AllReadyH.nil)
          (go_simp; refine (HA.out _ _ hO).mono ?_; clear hO; rintro e w5 ⟨v, h1, h2, hO⟩; cases h1; cases h2)
          refine hK.out _ _ ⟨(FB.out _ (hO.suf sfx)).1, (FB.out _ (hO.suf sfx)).2.1, (FB.out _ (hO.suf sfx)).2.2⟩ (fun hS => ?_)
          clear hK K
          try simp only [Act.put, sb, s0, sz]
          refine tV 34 ⟨some 54, .unOp Go.UnOp.not 4 (.tmp 53), _, _, _, some (30, false)⟩ hS ?_
          refine tV 35 ⟨some 55, .pick (.tmp 50) (.const (.bool true)) (.tmp 54), _, _, _, none⟩ hS ?_
          refine tV 36 ⟨some 56, .move (.tmp 55), _, _, _, none⟩ hS ?_
          refine tV 37 ⟨some 57, .fieldAddr 57 (.tmp 4) 2, _, _, _, some (36, false)⟩ hS ?_
          refine tL 38 ⟨some 58, .load 55 (.tmp 57), _, _, _, some (36, false)⟩ hS ?_
          refine wpAnyH_ready (rs := [39]) (by kernel_rfl) (by simp) ?_
          refine (AllReadyH.cons (o := ⟨some 59, .call { callee := .value (.func 49), args := #[.tmp 58], argTypes := #[55] }, _, _, _, some (36, false)⟩) rfl (fun K hK => ?_) AllReadyH.nil)
          (go_simp; refine (HB.out _ _ hO).mono ?_; clear hO; rintro e w5 ⟨v, h1, h2, hO⟩; cases h1; cases h2)
          refine hK.out _ _ ⟨(FB.out _ (hO.suf sfx)).1, (FB.out _ (hO.suf sfx)).2.1, (FB.out _ (hO.suf sfx)).2.2⟩ (fun hS => ?_)
          clear hK K
          try simp only [Act.put, sb, s0, sz]
          refine tV 40 ⟨some 60, .unOp Go.UnOp.not 4 (.tmp 59), _, _, _, some (36, false)⟩ hS ?_
          refine tV 41 ⟨some 61, .pick (.tmp 56) (.const (.bool true)) (.tmp 60), _, _, _, none⟩ hS ?_
          refine wpAnyH_done (by kernel_rfl) ?_ _
          all_goals
            clear hS hE
            have hE := hO.tail.tail
            clear hO
            go_wp2
            refine bodyPost_ret (results_tmp rfl _ _ _) rfl ?_
            exact ⟨_, rfl, .mk false hE (iff_of_false (by decide) (fun h => by have := (Hst.out.2 h).1; rw [Hb.out] at this; cases this))⟩
        have Hb := SL.hid (show g = true by rw [Hg.out]; simp)
        clear Hg
        have hO := hE.drew
        refine wp_region_held_drew (S := (fun w' => ((Instr.loadAt 9 (.pointer (some ⟨b4, 0, none⟩))).run Tryd.prog w' = .ok (.string ⟨xp.toArray⟩) w') ∧ ((Instr.loadAt 55 (.pointer (some ⟨b4, 1, none⟩))).run Tryd.prog w' = .ok (.agg #[.bool qt, .bool qd, .string ⟨qb.toArray⟩]) w') ∧ ((Instr.loadAt 55 (.pointer (some ⟨b4, 4, none⟩))).run Tryd.prog w' = .ok (.agg #[.bool ut, .bool ud, .string ⟨ub.toArray⟩]) w'))) (by kernel_rfl) ⟨(FB.out _ (hO.suf sfx)).1, (FB.out _ (hO.suf sfx)).2.1, (FB.out _ (hO.suf sfx)).2.2⟩ (fun hS => ?_)
        refine tV 0 ⟨some 20, .move (.tmp 6), _, _, _, none⟩ hS ?_
        refine tV 1 ⟨some 21, .binOp .neq 31 (.tmp 20) (.const (.int .i64 0)) 31, _, _, _, none⟩ hS ?_
        refine tV 2 ⟨some 22, .move (.tmp 21), _, _, _, none⟩ hS ?_
        refine tV 3 ⟨some 23, .move (.tmp 5), _, _, _, some (2, false)⟩ hS ?_
        refine tV 4 ⟨some 24, .call { callee := .builtin .len, args := #[.tmp 23], argTypes := #[72] }, _, _, _, some (2, false)⟩ hS ?_
        refine tV 5 ⟨some 25, .binOp .eql 3 (.tmp 24) (.const (.int .i64 0)) 3, _, _, _, some (2, false)⟩ hS ?_
        refine tV 6 ⟨some 26, .pick (.tmp 22) (.const (.bool true)) (.tmp 25), _, _, _, none⟩ hS ?_
        refine tV 7 ⟨some 27, .move (.tmp 26), _, _, _, none⟩ hS ?_
        refine tV 8 ⟨some 28, .move (.tmp 3), _, _, _, some (7, false)⟩ hS ?_
        refine tV 9 ⟨some 29, .binOp .gtr 3 (.tmp 28) (.const (.int .i64 0)) 3, _, _, _, some (7, false)⟩ hS ?_
        refine tV 10 ⟨some 30, .move (.tmp 29), _, _, _, some (7, false)⟩ hS ?_
        refine tU 11 ⟨some 31, .move (.tmp 0), _, _, _, some (10, true)⟩ hS ?_
        refine tU 12 ⟨some 32, .move (.tmp 3), _, _, _, some (10, true)⟩ hS ?_
        refine tU 13 ⟨some 33, .binOp .sub 3 (.tmp 32) (.const (.int .i64 1)) 3, _, _, _, some (10, true)⟩ hS ?_
        refine tU 14 ⟨some 34, .indexAddr 34 (.tmp 31) (.tmp 33), _, _, _, some (10, true)⟩ hS ?_
        refine tU 15 ⟨some 35, .fieldAddr 57 (.tmp 34) 0, _, _, _, some (10, true)⟩ hS ?_
        refine tU 16 ⟨some 36, .load 9 (.tmp 35), _, _, _, some (10, true)⟩ hS ?_
        refine tU 17 ⟨some 37, .fieldAddr 57 (.tmp 4) 0, _, _, _, some (10, true)⟩ hS ?_
        refine tU 18 ⟨some 38, .load 9 (.tmp 37), _, _, _, some (10, true)⟩ hS ?_
        refine tU 19 ⟨some 39, .call { callee := .value (.func 19), args := #[.tmp 36, .tmp 38], argTypes := #[9, 9] }, _, _, _, some (10, true)⟩ hS ?_
        refine tU 20 ⟨some 40, .binOp .geq 3 (.tmp 39) (.const (.int .i64 0)) 3, _, _, _, some (10, true)⟩ hS ?_
        refine tV 21 ⟨some 41, .pick (.tmp 30) (.tmp 40) (.const (.bool false)), _, _, _, some (7, false)⟩ hS ?_
        refine tV 22 ⟨some 42, .pick (.tmp 27) (.const (.bool true)) (.tmp 41), _, _, _, none⟩ hS ?_
        refine tV 23 ⟨some 43, .move (.tmp 42), _, _, _, none⟩ hS ?_
        refine tV 24 ⟨some 44, .fieldAddr 57 (.tmp 4) 1, _, _, _, some (23, false)⟩ hS ?_
        refine tL 25 ⟨some 45, .load 55 (.tmp 44), _, _, _, some (23, false)⟩ hS ?_
        refine tV 26 ⟨some 46, .fieldAddr 57 (.tmp 4) 2, _, _, _, some (23, false)⟩ hS ?_
        refine tL 27 ⟨some 47, .load 55 (.tmp 46), _, _, _, some (23, false)⟩ hS ?_
        refine tV 28 ⟨some 48, .binOp .eql 55 (.tmp 45) (.tmp 47) 55, _, _, _, some (23, false)⟩ hS ?_
        refine tV 29 ⟨some 49, .pick (.tmp 43) (.const (.bool true)) (.tmp 48), _, _, _, none⟩ hS ?_
        refine tV 30 ⟨some 50, .move (.tmp 49), _, _, _, none⟩ hS ?_
        refine tV 31 ⟨some 51, .fieldAddr 57 (.tmp 4) 1, _, _, _, some (30, false)⟩ hS ?_
        refine tL 32 ⟨some 52, .load 55 (.tmp 51), _, _, _, some (30, false)⟩ hS ?_
        refine wpAnyH_ready (rs := [33]) (by kernel_rfl) (by simp) ?_
        refine (AllReadyH.cons (o := ⟨some 53, .call { callee := .value (.func 49), args := #[.tmp 52], argTypes := #[55] }, _, _, _, some (30, false)⟩) rfl (fun K hK => ?_) AllReadyH.nil)
        (go_simp; refine (HA.out _ _ hO).mono ?_; clear hO; rintro e w5 ⟨v, h1, h2, hO⟩; cases h1; cases h2)
        refine hK.out _ _ ⟨(FB.out _ (hO.suf sfx)).1, (FB.out _ (hO.suf sfx)).2.1, (FB.out _ (hO.suf sfx)).2.2⟩ (fun hS => ?_)
        clear hK K
        try simp only [Act.put, sb, s0, sz]
        refine tV 34 ⟨some 54, .unOp Go.UnOp.not 4 (.tmp 53), _, _, _, some (30, false)⟩ hS ?_
        refine tV 35 ⟨some 55, .pick (.tmp 50) (.const (.bool true)) (.tmp 54), _, _, _, none⟩ hS ?_
        refine tV 36 ⟨some 56, .move (.tmp 55), _, _, _, none⟩ hS ?_
        refine tV 37 ⟨some 57, .fieldAddr 57 (.tmp 4) 2, _, _, _, some (36, false)⟩ hS ?_
        refine tL 38 ⟨some 58, .load 55 (.tmp 57), _, _, _, some (36, false)⟩ hS ?_
        refine wpAnyH_ready (rs := [39]) (by kernel_rfl) (by simp) ?_
        refine (AllReadyH.cons (o := ⟨some 59, .call { callee := .value (.func 49), args := #[.tmp 58], argTypes := #[55] }, _, _, _, some (36, false)⟩) rfl (fun K hK => ?_) AllReadyH.nil)
        (go_simp; refine (HB.out _ _ hO).mono ?_; clear hO; rintro e w5 ⟨v, h1, h2, hO⟩; cases h1; cases h2)
        refine hK.out _ _ ⟨(FB.out _ (hO.suf sfx)).1, (FB.out _ (hO.suf sfx)).2.1, (FB.out _ (hO.suf sfx)).2.2⟩ (fun hS => ?_)
        clear hK K
        try simp only [Act.put, sb, s0, sz]
        refine tV 40 ⟨some 60, .unOp Go.UnOp.not 4 (.tmp 59), _, _, _, some (36, false)⟩ hS ?_
        refine tV 41 ⟨some 61, .pick (.tmp 56) (.const (.bool true)) (.tmp 60), _, _, _, none⟩ hS ?_
        refine wpAnyH_done (by kernel_rfl) ?_ _
        all_goals
          clear hS hE
          have hE := hO.tail.tail
          clear hO
          go_wp2
          go_roundw
          case rel => exact ⟨1, hlt, by first | rfl | simp, Hst.out.1.2 ⟨Hb.out, fun y hy => by simp at hy⟩, hE⟩
          case measure => simp [intOf] <;> omega
      | succ j =>
        have hjl : j < es.length := by omega
        have f1 := SL.hid (show ∀ w, Ent l w → _ from fun w h => load_dc (hk w h) hjl)
        have Hla := SL.hid (last_take hlt)
        have hyl := Hp.out es[j] (List.getElem_mem hjl)
        generalize es[j] = y at *
        have HO2 := SL.hid (fun (L : List HProp) (w : World) (h : Ent L w) => HO.out L w y.path hyl h)
        have hw1 : IntKind.i64.wrap (j : Int) = j := wrap_id (by omega)
        have h0j : (0 : Int) < (j : Int) + 1 := by omega
        have h1j : (0 : Int) ≤ (j : Int) + 1 := by omega
        have h2j : (j : Int) + 1 < (es.length : Int) := by omega
        rcases ord_cases y.path xp with ⟨ho, h1⟩ | ⟨ho, h1, h2⟩ | ⟨ho, h1, h2⟩
        · have Hls := SL.hid h1
          rw [ho] at HO2
          clear ho h1 hyl
          cases eq
          case' true =>
            have Hb := SL.hid (show g = false by rw [Hg.out]; simp)
            have hO := hE.drew
            refine wp_region_held_drew (S := (fun w' => ((Instr.loadAt 9 (.pointer (some ⟨b4, 0, none⟩))).run Tryd.prog w' = .ok (.string ⟨xp.toArray⟩) w') ∧ ((Instr.loadAt 55 (.pointer (some ⟨b4, 1, none⟩))).run Tryd.prog w' = .ok (.agg #[.bool qt, .bool qd, .string ⟨qb.toArray⟩]) w') ∧ ((Instr.loadAt 55 (.pointer (some ⟨b4, 4, none⟩))).run Tryd.prog w' = .ok (.agg #[.bool ut, .bool ud, .string ⟨ub.toArray⟩]) w') ∧ ((Instr.loadAt 9 (.pointer (some ⟨b, off + j * 7, none⟩))).run Tryd.prog w' = .ok (.string ⟨y.path.toArray⟩) w'))) (by kernel_rfl) ⟨(FB.out _ (hO.suf sfx)).1, (FB.out _ (hO.suf sfx)).2.1, (FB.out _ (hO.suf sfx)).2.2, (f1.out _ (hO.suf sfx)).2.1⟩ (fun hS => ?_)
            refine tV 0 ⟨some 20, .move (.tmp 6), _, _, _, none⟩ hS ?_
            refine tV 1 ⟨some 21, .binOp .neq 31 (.tmp 20) (.const (.int .i64 0)) 31, _, _, _, none⟩ hS ?_
            refine tV 2 ⟨some 22, .move (.tmp 21), _, _, _, none⟩ hS ?_
            refine tV 3 ⟨some 23, .move (.tmp 5), _, _, _, some (2, false)⟩ hS ?_
            refine tV 4 ⟨some 24, .call { callee := .builtin .len, args := #[.tmp 23], argTypes := #[72] }, _, _, _, some (2, false)⟩ hS ?_
            refine tV 5 ⟨some 25, .binOp .eql 3 (.tmp 24) (.const (.int .i64 0)) 3, _, _, _, some (2, false)⟩ hS ?_
            refine tV 6 ⟨some 26, .pick (.tmp 22) (.const (.bool true)) (.tmp 25), _, _, _, none⟩ hS ?_
            refine tV 7 ⟨some 27, .move (.tmp 26), _, _, _, none⟩ hS ?_
            refine tV 8 ⟨some 28, .move (.tmp 3), _, _, _, some (7, false)⟩ hS ?_
            refine tV 9 ⟨some 29, .binOp .gtr 3 (.tmp 28) (.const (.int .i64 0)) 3, _, _, _, some (7, false)⟩ hS ?_
            refine tV 10 ⟨some 30, .move (.tmp 29), _, _, _, some (7, false)⟩ hS ?_
            refine tV 11 ⟨some 31, .move (.tmp 0), _, _, _, some (10, true)⟩ hS ?_
            refine tV 12 ⟨some 32, .move (.tmp 3), _, _, _, some (10, true)⟩ hS ?_
            refine tV 13 ⟨some 33, .binOp .sub 3 (.tmp 32) (.const (.int .i64 1)) 3, _, _, _, some (10, true)⟩ hS ?_
            refine tV 14 ⟨some 34, .indexAddr 34 (.tmp 31) (.tmp 33), _, _, _, some (10, true)⟩ hS ?_
            refine tV 15 ⟨some 35, .fieldAddr 57 (.tmp 34) 0, _, _, _, some (10, true)⟩ hS ?_
            refine tL 16 ⟨some 36, .load 9 (.tmp 35), _, _, _, some (10, true)⟩ hS ?_
            refine tV 17 ⟨some 37, .fieldAddr 57 (.tmp 4) 0, _, _, _, some (10, true)⟩ hS ?_
            refine tL 18 ⟨some 38, .load 9 (.tmp 37), _, _, _, some (10, true)⟩ hS ?_
            refine wpAnyH_ready (rs := [19]) (by kernel_rfl) (by simp) ?_
            refine (AllReadyH.cons (o := ⟨some 39, .call { callee := .value (.func 19), args := #[.tmp 36, .tmp 38], argTypes := #[9, 9] }, _, _, _, some (10, true)⟩) rfl (fun K hK => ?_) AllReadyH.nil)
            (go_simp; refine (HO2.out _ _ hO).mono ?_; clear hO; rintro e w5 ⟨v, h1, h2, hO⟩; cases h1; cases h2)
            refine hK.out _ _ ⟨(FB.out _ (hO.suf sfx)).1, (FB.out _ (hO.suf sfx)).2.1, (FB.out _ (hO.suf sfx)).2.2, (f1.out _ (hO.suf sfx)).2.1⟩ (fun hS => ?_)
            clear hK K
            try simp only [Act.put, sb, s0, sz]
            refine tV 20 ⟨some 40, .binOp .geq 3 (.tmp 39) (.const (.int .i64 0)) 3, _, _, _, some (10, true)⟩ hS ?_
            refine tV 21 ⟨some 41, .pick (.tmp 30) (.tmp 40) (.const (.bool false)), _, _, _, some (7, false)⟩ hS ?_
            refine tV 22 ⟨some 42, .pick (.tmp 27) (.const (.bool true)) (.tmp 41), _, _, _, none⟩ hS ?_
            refine tV 23 ⟨some 43, .move (.tmp 42), _, _, _, none⟩ hS ?_
            refine tV 24 ⟨some 44, .fieldAddr 57 (.tmp 4) 1, _, _, _, some (23, false)⟩ hS ?_
            refine tL 25 ⟨some 45, .load 55 (.tmp 44), _, _, _, some (23, false)⟩ hS ?_
            refine tV 26 ⟨some 46, .fieldAddr 57 (.tmp 4) 2, _, _, _, some (23, false)⟩ hS ?_
            refine tL 27 ⟨some 47, .load 55 (.tmp 46), _, _, _, some (23, false)⟩ hS ?_
            refine tV 28 ⟨some 48, .binOp .eql 55 (.tmp 45) (.tmp 47) 55, _, _, _, some (23, false)⟩ hS ?_
            refine tV 29 ⟨some 49, .pick (.tmp 43) (.const (.bool true)) (.tmp 48), _, _, _, none⟩ hS ?_
            refine tV 30 ⟨some 50, .move (.tmp 49), _, _, _, none⟩ hS ?_
            refine tU 31 ⟨some 51, .fieldAddr 57 (.tmp 4) 1, _, _, _, some (30, false)⟩ hS ?_
            refine tU 32 ⟨some 52, .load 55 (.tmp 51), _, _, _, some (30, false)⟩ hS ?_
            refine tU 33 ⟨some 53, .call { callee := .value (.func 49), args := #[.tmp 52], argTypes := #[55] }, _, _, _, some (30, false)⟩ hS ?_
            refine tU 34 ⟨some 54, .unOp Go.UnOp.not 4 (.tmp 53), _, _, _, some (30, false)⟩ hS ?_
            refine tV 35 ⟨some 55, .pick (.tmp 50) (.const (.bool true)) (.tmp 54), _, _, _, none⟩ hS ?_
            refine tV 36 ⟨some 56, .move (.tmp 55), _, _, _, none⟩ hS ?_
            refine tU 37 ⟨some 57, .fieldAddr 57 (.tmp 4) 2, _, _, _, some (36, false)⟩ hS ?_
            refine tU 38 ⟨some 58, .load 55 (.tmp 57), _, _, _, some (36, false)⟩ hS ?_
            refine tU 39 ⟨some 59, .call { callee := .value (.func 49), args := #[.tmp 58], argTypes := #[55] }, _, _, _, some (36, false)⟩ hS ?_
            refine tU 40 ⟨some 60, .unOp Go.UnOp.not 4 (.tmp 59), _, _, _, some (36, false)⟩ hS ?_
            refine tV 41 ⟨some 61, .pick (.tmp 56) (.const (.bool true)) (.tmp 60), _, _, _, none⟩ hS ?_
            refine wpAnyH_done (by kernel_rfl) ?_ _
            all_goals
              clear hS hE
              have hE := hO.tail.tail
              clear hO
              go_wp2
              refine bodyPost_ret (results_tmp rfl _ _ _) rfl ?_
              exact ⟨_, rfl, .mk false hE (iff_of_false (by decide) (fun h => by have := (Hst.out.2 h).1; rw [Hb.out] at this; cases this))⟩
          cases m1
          case' false =>
            have Hb := SL.hid (show g = false by rw [Hg.out]; simp)
            have hO := hE.drew
            refine wp_region_held_drew (S := (fun w' => ((Instr.loadAt 9 (.pointer (some ⟨b4, 0, none⟩))).run Tryd.prog w' = .ok (.string ⟨xp.toArray⟩) w') ∧ ((Instr.loadAt 55 (.pointer (some ⟨b4, 1, none⟩))).run Tryd.prog w' = .ok (.agg #[.bool qt, .bool qd, .string ⟨qb.toArray⟩]) w') ∧ ((Instr.loadAt 55 (.pointer (some ⟨b4, 4, none⟩))).run Tryd.prog w' = .ok (.agg #[.bool ut, .bool ud, .string ⟨ub.toArray⟩]) w') ∧ ((Instr.loadAt 9 (.pointer (some ⟨b, off + j * 7, none⟩))).run Tryd.prog w' = .ok (.string ⟨y.path.toArray⟩) w'))) (by kernel_rfl) ⟨(FB.out _ (hO.suf sfx)).1, (FB.out _ (hO.suf sfx)).2.1, (FB.out _ (hO.suf sfx)).2.2, (f1.out _ (hO.suf sfx)).2.1⟩ (fun hS => ?_)
            refine tV 0 ⟨some 20, .move (.tmp 6), _, _, _, none⟩ hS ?_
            refine tV 1 ⟨some 21, .binOp .neq 31 (.tmp 20) (.const (.int .i64 0)) 31, _, _, _, none⟩ hS ?_
            refine tV 2 ⟨some 22, .move (.tmp 21), _, _, _, none⟩ hS ?_
            refine tV 3 ⟨some 23, .move (.tmp 5), _, _, _, some (2, false)⟩ hS ?_
            refine tV 4 ⟨some 24, .call { callee := .builtin .len, args := #[.tmp 23], argTypes := #[72] }, _, _, _, some (2, false)⟩ hS ?_
            refine tV 5 ⟨some 25, .binOp .eql 3 (.tmp 24) (.const (.int .i64 0)) 3, _, _, _, some (2, false)⟩ hS ?_
            refine tV 6 ⟨some 26, .pick (.tmp 22) (.const (.bool true)) (.tmp 25), _, _, _, none⟩ hS ?_
            refine tV 7 ⟨some 27, .move (.tmp 26), _, _, _, none⟩ hS ?_
            refine tV 8 ⟨some 28, .move (.tmp 3), _, _, _, some (7, false)⟩ hS ?_
            refine tV 9 ⟨some 29, .binOp .gtr 3 (.tmp 28) (.const (.int .i64 0)) 3, _, _, _, some (7, false)⟩ hS ?_
            refine tV 10 ⟨some 30, .move (.tmp 29), _, _, _, some (7, false)⟩ hS ?_
            refine tV 11 ⟨some 31, .move (.tmp 0), _, _, _, some (10, true)⟩ hS ?_
            refine tV 12 ⟨some 32, .move (.tmp 3), _, _, _, some (10, true)⟩ hS ?_
            refine tV 13 ⟨some 33, .binOp .sub 3 (.tmp 32) (.const (.int .i64 1)) 3, _, _, _, some (10, true)⟩ hS ?_
            refine tV 14 ⟨some 34, .indexAddr 34 (.tmp 31) (.tmp 33), _, _, _, some (10, true)⟩ hS ?_
            refine tV 15 ⟨some 35, .fieldAddr 57 (.tmp 34) 0, _, _, _, some (10, true)⟩ hS ?_
            refine tL 16 ⟨some 36, .load 9 (.tmp 35), _, _, _, some (10, true)⟩ hS ?_
            refine tV 17 ⟨some 37, .fieldAddr 57 (.tmp 4) 0, _, _, _, some (10, true)⟩ hS ?_
            refine tL 18 ⟨some 38, .load 9 (.tmp 37), _, _, _, some (10, true)⟩ hS ?_
            refine wpAnyH_ready (rs := [19]) (by kernel_rfl) (by simp) ?_
            refine (AllReadyH.cons (o := ⟨some 39, .call { callee := .value (.func 19), args := #[.tmp 36, .tmp 38], argTypes := #[9, 9] }, _, _, _, some (10, true)⟩) rfl (fun K hK => ?_) AllReadyH.nil)
            (go_simp; refine (HO2.out _ _ hO).mono ?_; clear hO; rintro e w5 ⟨v, h1, h2, hO⟩; cases h1; cases h2)
            refine hK.out _ _ ⟨(FB.out _ (hO.suf sfx)).1, (FB.out _ (hO.suf sfx)).2.1, (FB.out _ (hO.suf sfx)).2.2, (f1.out _ (hO.suf sfx)).2.1⟩ (fun hS => ?_)
            clear hK K
            try simp only [Act.put, sb, s0, sz]
            refine tV 20 ⟨some 40, .binOp .geq 3 (.tmp 39) (.const (.int .i64 0)) 3, _, _, _, some (10, true)⟩ hS ?_
            refine tV 21 ⟨some 41, .pick (.tmp 30) (.tmp 40) (.const (.bool false)), _, _, _, some (7, false)⟩ hS ?_
            refine tV 22 ⟨some 42, .pick (.tmp 27) (.const (.bool true)) (.tmp 41), _, _, _, none⟩ hS ?_
            refine tV 23 ⟨some 43, .move (.tmp 42), _, _, _, none⟩ hS ?_
            refine tV 24 ⟨some 44, .fieldAddr 57 (.tmp 4) 1, _, _, _, some (23, false)⟩ hS ?_
            refine tL 25 ⟨some 45, .load 55 (.tmp 44), _, _, _, some (23, false)⟩ hS ?_
            refine tV 26 ⟨some 46, .fieldAddr 57 (.tmp 4) 2, _, _, _, some (23, false)⟩ hS ?_
            refine tL 27 ⟨some 47, .load 55 (.tmp 46), _, _, _, some (23, false)⟩ hS ?_
            refine tV 28 ⟨some 48, .binOp .eql 55 (.tmp 45) (.tmp 47) 55, _, _, _, some (23, false)⟩ hS ?_
            refine tV 29 ⟨some 49, .pick (.tmp 43) (.const (.bool true)) (.tmp 48), _, _, _, none⟩ hS ?_
            refine tV 30 ⟨some 50, .move (.tmp 49), _, _, _, none⟩ hS ?_
            refine tV 31 ⟨some 51, .fieldAddr 57 (.tmp 4) 1, _, _, _, some (30, false)⟩ hS ?_
            refine tL 32 ⟨some 52, .load 55 (.tmp 51), _, _, _, some (30, false)⟩ hS ?_
            refine wpAnyH_ready (rs := [33]) (by kernel_rfl) (by simp) ?_
            refine (AllReadyH.cons (o := ⟨some 53, .call { callee := .value (.func 49), args := #[.tmp 52], argTypes := #[55] }, _, _, _, some (30, false)⟩) rfl (fun K hK => ?_) AllReadyH.nil)
            (go_simp; refine (HA.out _ _ hO).mono ?_; clear hO; rintro e w5 ⟨v, h1, h2, hO⟩; cases h1; cases h2)
            refine hK.out _ _ ⟨(FB.out _ (hO.suf sfx)).1, (FB.out _ (hO.suf sfx)).2.1, (FB.out _ (hO.suf sfx)).2.2, (f1.out _ (hO.suf sfx)).2.1⟩ (fun hS => ?_)
            clear hK K
            try simp only [Act.put, sb, s0, sz]
            refine tV 34 ⟨some 54, .unOp Go.UnOp.not 4 (.tmp 53), _, _, _, some (30, false)⟩ hS ?_
            refine tV 35 ⟨some 55, .pick (.tmp 50) (.const (.bool true)) (.tmp 54), _, _, _, none⟩ hS ?_
            refine tV 36 ⟨some 56, .move (.tmp 55), _, _, _, none⟩ hS ?_
            refine tU 37 ⟨some 57, .fieldAddr 57 (.tmp 4) 2, _, _, _, some (36, false)⟩ hS ?_
            refine tU 38 ⟨some 58, .load 55 (.tmp 57), _, _, _, some (36, false)⟩ hS ?_
            refine tU 39 ⟨some 59, .call { callee := .value (.func 49), args := #[.tmp 58], argTypes := #[55] }, _, _, _, some (36, false)⟩ hS ?_
            refine tU 40 ⟨some 60, .unOp Go.UnOp.not 4 (.tmp 59), _, _, _, some (36, false)⟩ hS ?_
            refine tV 41 ⟨some 61, .pick (.tmp 56) (.const (.bool true)) (.tmp 60), _, _, _, none⟩ hS ?_
            refine wpAnyH_done (by kernel_rfl) ?_ _
            all_goals
              clear hS hE
              have hE := hO.tail.tail
              clear hO
              go_wp2
              refine bodyPost_ret (results_tmp rfl _ _ _) rfl ?_
              exact ⟨_, rfl, .mk false hE (iff_of_false (by decide) (fun h => by have := (Hst.out.2 h).1; rw [Hb.out] at this; cases this))⟩
          cases m2
          case' false =>
            have Hb := SL.hid (show g = false by rw [Hg.out]; simp)
            have hO := hE.drew
            refine wp_region_held_drew (S := (fun w' => ((Instr.loadAt 9 (.pointer (some ⟨b4, 0, none⟩))).run Tryd.prog w' = .ok (.string ⟨xp.toArray⟩) w') ∧ ((Instr.loadAt 55 (.pointer (some ⟨b4, 1, none⟩))).run Tryd.prog w' = .ok (.agg #[.bool qt, .bool qd, .string ⟨qb.toArray⟩]) w') ∧ ((Instr.loadAt 55 (.pointer (some ⟨b4, 4, none⟩))).run Tryd.prog w' = .ok (.agg #[.bool ut, .bool ud, .string ⟨ub.toArray⟩]) w') ∧ ((Instr.loadAt 9 (.pointer (some ⟨b, off + j * 7, none⟩))).run Tryd.prog w' = .ok (.string ⟨y.path.toArray⟩) w'))) (by kernel_rfl) ⟨(FB.out _ (hO.suf sfx)).1, (FB.out _ (hO.suf sfx)).2.1, (FB.out _ (hO.suf sfx)).2.2, (f1.out _ (hO.suf sfx)).2.1⟩ (fun hS => ?_)
            refine tV 0 ⟨some 20, .move (.tmp 6), _, _, _, none⟩ hS ?_
            refine tV 1 ⟨some 21, .binOp .neq 31 (.tmp 20) (.const (.int .i64 0)) 31, _, _, _, none⟩ hS ?_
            refine tV 2 ⟨some 22, .move (.tmp 21), _, _, _, none⟩ hS ?_
            refine tV 3 ⟨some 23, .move (.tmp 5), _, _, _, some (2, false)⟩ hS ?_
            refine tV 4 ⟨some 24, .call { callee := .builtin .len, args := #[.tmp 23], argTypes := #[72] }, _, _, _, some (2, false)⟩ hS ?_
            refine tV 5 ⟨some 25, .binOp .eql 3 (.tmp 24) (.const (.int .i64 0)) 3, _, _, _, some (2, false)⟩ hS ?_
            refine tV 6 ⟨some 26, .pick (.tmp 22) (.const (.bool true)) (.tmp 25), _, _, _, none⟩ hS ?_
            refine tV 7 ⟨some 27, .move (.tmp 26), _, _, _, none⟩ hS ?_
            refine tV 8 ⟨some 28, .move (.tmp 3), _, _, _, some (7, false)⟩ hS ?_
            refine tV 9 ⟨some 29, .binOp .gtr 3 (.tmp 28) (.const (.int .i64 0)) 3, _, _, _, some (7, false)⟩ hS ?_
            refine tV 10 ⟨some 30, .move (.tmp 29), _, _, _, some (7, false)⟩ hS ?_
            refine tV 11 ⟨some 31, .move (.tmp 0), _, _, _, some (10, true)⟩ hS ?_
            refine tV 12 ⟨some 32, .move (.tmp 3), _, _, _, some (10, true)⟩ hS ?_
            refine tV 13 ⟨some 33, .binOp .sub 3 (.tmp 32) (.const (.int .i64 1)) 3, _, _, _, some (10, true)⟩ hS ?_
            refine tV 14 ⟨some 34, .indexAddr 34 (.tmp 31) (.tmp 33), _, _, _, some (10, true)⟩ hS ?_
            refine tV 15 ⟨some 35, .fieldAddr 57 (.tmp 34) 0, _, _, _, some (10, true)⟩ hS ?_
            refine tL 16 ⟨some 36, .load 9 (.tmp 35), _, _, _, some (10, true)⟩ hS ?_
            refine tV 17 ⟨some 37, .fieldAddr 57 (.tmp 4) 0, _, _, _, some (10, true)⟩ hS ?_
            refine tL 18 ⟨some 38, .load 9 (.tmp 37), _, _, _, some (10, true)⟩ hS ?_
            refine wpAnyH_ready (rs := [19]) (by kernel_rfl) (by simp) ?_
            refine (AllReadyH.cons (o := ⟨some 39, .call { callee := .value (.func 19), args := #[.tmp 36, .tmp 38], argTypes := #[9, 9] }, _, _, _, some (10, true)⟩) rfl (fun K hK => ?_) AllReadyH.nil)
            (go_simp; refine (HO2.out _ _ hO).mono ?_; clear hO; rintro e w5 ⟨v, h1, h2, hO⟩; cases h1; cases h2)
            refine hK.out _ _ ⟨(FB.out _ (hO.suf sfx)).1, (FB.out _ (hO.suf sfx)).2.1, (FB.out _ (hO.suf sfx)).2.2, (f1.out _ (hO.suf sfx)).2.1⟩ (fun hS => ?_)
            clear hK K
            try simp only [Act.put, sb, s0, sz]
            refine tV 20 ⟨some 40, .binOp .geq 3 (.tmp 39) (.const (.int .i64 0)) 3, _, _, _, some (10, true)⟩ hS ?_
            refine tV 21 ⟨some 41, .pick (.tmp 30) (.tmp 40) (.const (.bool false)), _, _, _, some (7, false)⟩ hS ?_
            refine tV 22 ⟨some 42, .pick (.tmp 27) (.const (.bool true)) (.tmp 41), _, _, _, none⟩ hS ?_
            refine tV 23 ⟨some 43, .move (.tmp 42), _, _, _, none⟩ hS ?_
            refine tV 24 ⟨some 44, .fieldAddr 57 (.tmp 4) 1, _, _, _, some (23, false)⟩ hS ?_
            refine tL 25 ⟨some 45, .load 55 (.tmp 44), _, _, _, some (23, false)⟩ hS ?_
            refine tV 26 ⟨some 46, .fieldAddr 57 (.tmp 4) 2, _, _, _, some (23, false)⟩ hS ?_
            refine tL 27 ⟨some 47, .load 55 (.tmp 46), _, _, _, some (23, false)⟩ hS ?_
            refine tV 28 ⟨some 48, .binOp .eql 55 (.tmp 45) (.tmp 47) 55, _, _, _, some (23, false)⟩ hS ?_
            refine tV 29 ⟨some 49, .pick (.tmp 43) (.const (.bool true)) (.tmp 48), _, _, _, none⟩ hS ?_
            refine tV 30 ⟨some 50, .move (.tmp 49), _, _, _, none⟩ hS ?_
            refine tV 31 ⟨some 51, .fieldAddr 57 (.tmp 4) 1, _, _, _, some (30, false)⟩ hS ?_
            refine tL 32 ⟨some 52, .load 55 (.tmp 51), _, _, _, some (30, false)⟩ hS ?_
            refine wpAnyH_ready (rs := [33]) (by kernel_rfl) (by simp) ?_
            refine (AllReadyH.cons (o := ⟨some 53, .call { callee := .value (.func 49), args := #[.tmp 52], argTypes := #[55] }, _, _, _, some (30, false)⟩) rfl (fun K hK => ?_) AllReadyH.nil)
            (go_simp; refine (HA.out _ _ hO).mono ?_; clear hO; rintro e w5 ⟨v, h1, h2, hO⟩; cases h1; cases h2)
            refine hK.out _ _ ⟨(FB.out _ (hO.suf sfx)).1, (FB.out _ (hO.suf sfx)).2.1, (FB.out _ (hO.suf sfx)).2.2, (f1.out _ (hO.suf sfx)).2.1⟩ (fun hS => ?_)
            clear hK K
            try simp only [Act.put, sb, s0, sz]
            refine tV 34 ⟨some 54, .unOp Go.UnOp.not 4 (.tmp 53), _, _, _, some (30, false)⟩ hS ?_
            refine tV 35 ⟨some 55, .pick (.tmp 50) (.const (.bool true)) (.tmp 54), _, _, _, none⟩ hS ?_
            refine tV 36 ⟨some 56, .move (.tmp 55), _, _, _, none⟩ hS ?_
            refine tV 37 ⟨some 57, .fieldAddr 57 (.tmp 4) 2, _, _, _, some (36, false)⟩ hS ?_
            refine tL 38 ⟨some 58, .load 55 (.tmp 57), _, _, _, some (36, false)⟩ hS ?_
            refine wpAnyH_ready (rs := [39]) (by kernel_rfl) (by simp) ?_
            refine (AllReadyH.cons (o := ⟨some 59, .call { callee := .value (.func 49), args := #[.tmp 58], argTypes := #[55] }, _, _, _, some (36, false)⟩) rfl (fun K hK => ?_) AllReadyH.nil)
            (go_simp; refine (HB.out _ _ hO).mono ?_; clear hO; rintro e w5 ⟨v, h1, h2, hO⟩; cases h1; cases h2)
            refine hK.out _ _ ⟨(FB.out _ (hO.suf sfx)).1, (FB.out _ (hO.suf sfx)).2.1, (FB.out _ (hO.suf sfx)).2.2, (f1.out _ (hO.suf sfx)).2.1⟩ (fun hS => ?_)
            clear hK K
            try simp only [Act.put, sb, s0, sz]
            refine tV 40 ⟨some 60, .unOp Go.UnOp.not 4 (.tmp 59), _, _, _, some (36, false)⟩ hS ?_
            refine tV 41 ⟨some 61, .pick (.tmp 56) (.const (.bool true)) (.tmp 60), _, _, _, none⟩ hS ?_
            refine wpAnyH_done (by kernel_rfl) ?_ _
            all_goals
              clear hS hE
              have hE := hO.tail.tail
              clear hO
              go_wp2
              refine bodyPost_ret (results_tmp rfl _ _ _) rfl ?_
              exact ⟨_, rfl, .mk false hE (iff_of_false (by decide) (fun h => by have := (Hst.out.2 h).1; rw [Hb.out] at this; cases this))⟩
          have Hb := SL.hid (show g = true by rw [Hg.out]; simp)
          clear Hg
          have hO := hE.drew
          refine wp_region_held_drew (S := (fun w' => ((Instr.loadAt 9 (.pointer (some ⟨b4, 0, none⟩))).run Tryd.prog w' = .ok (.string ⟨xp.toArray⟩) w') ∧ ((Instr.loadAt 55 (.pointer (some ⟨b4, 1, none⟩))).run Tryd.prog w' = .ok (.agg #[.bool qt, .bool qd, .string ⟨qb.toArray⟩]) w') ∧ ((Instr.loadAt 55 (.pointer (some ⟨b4, 4, none⟩))).run Tryd.prog w' = .ok (.agg #[.bool ut, .bool ud, .string ⟨ub.toArray⟩]) w') ∧ ((Instr.loadAt 9 (.pointer (some ⟨b, off + j * 7, none⟩))).run Tryd.prog w' = .ok (.string ⟨y.path.toArray⟩) w'))) (by kernel_rfl) ⟨(FB.out _ (hO.suf sfx)).1, (FB.out _ (hO.suf sfx)).2.1, (FB.out _ (hO.suf sfx)).2.2, (f1.out _ (hO.suf sfx)).2.1⟩ (fun hS => ?_)
          refine tV 0 ⟨some 20, .move (.tmp 6), _, _, _, none⟩ hS ?_
          refine tV 1 ⟨some 21, .binOp .neq 31 (.tmp 20) (.const (.int .i64 0)) 31, _, _, _, none⟩ hS ?_
          refine tV 2 ⟨some 22, .move (.tmp 21), _, _, _, none⟩ hS ?_
          refine tV 3 ⟨some 23, .move (.tmp 5), _, _, _, some (2, false)⟩ hS ?_
          refine tV 4 ⟨some 24, .call { callee := .builtin .len, args := #[.tmp 23], argTypes := #[72] }, _, _, _, some (2, false)⟩ hS ?_
          refine tV 5 ⟨some 25, .binOp .eql 3 (.tmp 24) (.const (.int .i64 0)) 3, _, _, _, some (2, false)⟩ hS ?_
          refine tV 6 ⟨some 26, .pick (.tmp 22) (.const (.bool true)) (.tmp 25), _, _, _, none⟩ hS ?_
          refine tV 7 ⟨some 27, .move (.tmp 26), _, _, _, none⟩ hS ?_
          refine tV 8 ⟨some 28, .move (.tmp 3), _, _, _, some (7, false)⟩ hS ?_
          refine tV 9 ⟨some 29, .binOp .gtr 3 (.tmp 28) (.const (.int .i64 0)) 3, _, _, _, some (7, false)⟩ hS ?_
          refine tV 10 ⟨some 30, .move (.tmp 29), _, _, _, some (7, false)⟩ hS ?_
          refine tV 11 ⟨some 31, .move (.tmp 0), _, _, _, some (10, true)⟩ hS ?_
          refine tV 12 ⟨some 32, .move (.tmp 3), _, _, _, some (10, true)⟩ hS ?_
          refine tV 13 ⟨some 33, .binOp .sub 3 (.tmp 32) (.const (.int .i64 1)) 3, _, _, _, some (10, true)⟩ hS ?_
          refine tV 14 ⟨some 34, .indexAddr 34 (.tmp 31) (.tmp 33), _, _, _, some (10, true)⟩ hS ?_
          refine tV 15 ⟨some 35, .fieldAddr 57 (.tmp 34) 0, _, _, _, some (10, true)⟩ hS ?_
          refine tL 16 ⟨some 36, .load 9 (.tmp 35), _, _, _, some (10, true)⟩ hS ?_
          refine tV 17 ⟨some 37, .fieldAddr 57 (.tmp 4) 0, _, _, _, some (10, true)⟩ hS ?_
          refine tL 18 ⟨some 38, .load 9 (.tmp 37), _, _, _, some (10, true)⟩ hS ?_
          refine wpAnyH_ready (rs := [19]) (by kernel_rfl) (by simp) ?_
          refine (AllReadyH.cons (o := ⟨some 39, .call { callee := .value (.func 19), args := #[.tmp 36, .tmp 38], argTypes := #[9, 9] }, _, _, _, some (10, true)⟩) rfl (fun K hK => ?_) AllReadyH.nil)
          (go_simp; refine (HO2.out _ _ hO).mono ?_; clear hO; rintro e w5 ⟨v, h1, h2, hO⟩; cases h1; cases h2)
          refine hK.out _ _ ⟨(FB.out _ (hO.suf sfx)).1, (FB.out _ (hO.suf sfx)).2.1, (FB.out _ (hO.suf sfx)).2.2, (f1.out _ (hO.suf sfx)).2.1⟩ (fun hS => ?_)
          clear hK K
          try simp only [Act.put, sb, s0, sz]
          refine tV 20 ⟨some 40, .binOp .geq 3 (.tmp 39) (.const (.int .i64 0)) 3, _, _, _, some (10, true)⟩ hS ?_
          refine tV 21 ⟨some 41, .pick (.tmp 30) (.tmp 40) (.const (.bool false)), _, _, _, some (7, false)⟩ hS ?_
          refine tV 22 ⟨some 42, .pick (.tmp 27) (.const (.bool true)) (.tmp 41), _, _, _, none⟩ hS ?_
          refine tV 23 ⟨some 43, .move (.tmp 42), _, _, _, none⟩ hS ?_
          refine tV 24 ⟨some 44, .fieldAddr 57 (.tmp 4) 1, _, _, _, some (23, false)⟩ hS ?_
          refine tL 25 ⟨some 45, .load 55 (.tmp 44), _, _, _, some (23, false)⟩ hS ?_
          refine tV 26 ⟨some 46, .fieldAddr 57 (.tmp 4) 2, _, _, _, some (23, false)⟩ hS ?_
          refine tL 27 ⟨some 47, .load 55 (.tmp 46), _, _, _, some (23, false)⟩ hS ?_
          refine tV 28 ⟨some 48, .binOp .eql 55 (.tmp 45) (.tmp 47) 55, _, _, _, some (23, false)⟩ hS ?_
          refine tV 29 ⟨some 49, .pick (.tmp 43) (.const (.bool true)) (.tmp 48), _, _, _, none⟩ hS ?_
          refine tV 30 ⟨some 50, .move (.tmp 49), _, _, _, none⟩ hS ?_
          refine tV 31 ⟨some 51, .fieldAddr 57 (.tmp 4) 1, _, _, _, some (30, false)⟩ hS ?_
          refine tL 32 ⟨some 52, .load 55 (.tmp 51), _, _, _, some (30, false)⟩ hS ?_
          refine wpAnyH_ready (rs := [33]) (by kernel_rfl) (by simp) ?_
          refine (AllReadyH.cons (o := ⟨some 53, .call { callee := .value (.func 49), args := #[.tmp 52], argTypes := #[55] }, _, _, _, some (30, false)⟩) rfl (fun K hK => ?_) AllReadyH.nil)
          (go_simp; refine (HA.out _ _ hO).mono ?_; clear hO; rintro e w5 ⟨v, h1, h2, hO⟩; cases h1; cases h2)
          refine hK.out _ _ ⟨(FB.out _ (hO.suf sfx)).1, (FB.out _ (hO.suf sfx)).2.1, (FB.out _ (hO.suf sfx)).2.2, (f1.out _ (hO.suf sfx)).2.1⟩ (fun hS => ?_)
          clear hK K
          try simp only [Act.put, sb, s0, sz]
          refine tV 34 ⟨some 54, .unOp Go.UnOp.not 4 (.tmp 53), _, _, _, some (30, false)⟩ hS ?_
          refine tV 35 ⟨some 55, .pick (.tmp 50) (.const (.bool true)) (.tmp 54), _, _, _, none⟩ hS ?_
          refine tV 36 ⟨some 56, .move (.tmp 55), _, _, _, none⟩ hS ?_
          refine tV 37 ⟨some 57, .fieldAddr 57 (.tmp 4) 2, _, _, _, some (36, false)⟩ hS ?_
          refine tL 38 ⟨some 58, .load 55 (.tmp 57), _, _, _, some (36, false)⟩ hS ?_
          refine wpAnyH_ready (rs := [39]) (by kernel_rfl) (by simp) ?_
          refine (AllReadyH.cons (o := ⟨some 59, .call { callee := .value (.func 49), args := #[.tmp 58], argTypes := #[55] }, _, _, _, some (36, false)⟩) rfl (fun K hK => ?_) AllReadyH.nil)
          (go_simp; refine (HB.out _ _ hO).mono ?_; clear hO; rintro e w5 ⟨v, h1, h2, hO⟩; cases h1; cases h2)
          refine hK.out _ _ ⟨(FB.out _ (hO.suf sfx)).1, (FB.out _ (hO.suf sfx)).2.1, (FB.out _ (hO.suf sfx)).2.2, (f1.out _ (hO.suf sfx)).2.1⟩ (fun hS => ?_)
          clear hK K
          try simp only [Act.put, sb, s0, sz]
          refine tV 40 ⟨some 60, .unOp Go.UnOp.not 4 (.tmp 59), _, _, _, some (36, false)⟩ hS ?_
          refine tV 41 ⟨some 61, .pick (.tmp 56) (.const (.bool true)) (.tmp 60), _, _, _, none⟩ hS ?_
          refine wpAnyH_done (by kernel_rfl) ?_ _
          all_goals
            clear hS hE
            have hE := hO.tail.tail
            clear hO
            go_wp2
            go_roundw
            case rel => exact ⟨j + 1 + 1, hlt, by first | rfl | simp, Hst.out.1.2 ⟨Hb.out, fun z hz => by rw [Hla.out] at hz; cases hz; exact Hls.out⟩, hE⟩
            case measure => simp [intOf] <;> omega
        · have Hls := SL.hid h1
          rw [ho] at HO2
          clear ho h1 h2 hyl
          have hO := hE.drew
          refine wp_region_held_drew (S := (fun w' => ((Instr.loadAt 9 (.pointer (some ⟨b4, 0, none⟩))).run Tryd.prog w' = .ok (.string ⟨xp.toArray⟩) w') ∧ ((Instr.loadAt 55 (.pointer (some ⟨b4, 1, none⟩))).run Tryd.prog w' = .ok (.agg #[.bool qt, .bool qd, .string ⟨qb.toArray⟩]) w') ∧ ((Instr.loadAt 55 (.pointer (some ⟨b4, 4, none⟩))).run Tryd.prog w' = .ok (.agg #[.bool ut, .bool ud, .string ⟨ub.toArray⟩]) w') ∧ ((Instr.loadAt 9 (.pointer (some ⟨b, off + j * 7, none⟩))).run Tryd.prog w' = .ok (.string ⟨y.path.toArray⟩) w'))) (by kernel_rfl) ⟨(FB.out _ (hO.suf sfx)).1, (FB.out _ (hO.suf sfx)).2.1, (FB.out _ (hO.suf sfx)).2.2, (f1.out _ (hO.suf sfx)).2.1⟩ (fun hS => ?_)
          refine tV 0 ⟨some 20, .move (.tmp 6), _, _, _, none⟩ hS ?_
          refine tV 1 ⟨some 21, .binOp .neq 31 (.tmp 20) (.const (.int .i64 0)) 31, _, _, _, none⟩ hS ?_
          refine tV 2 ⟨some 22, .move (.tmp 21), _, _, _, none⟩ hS ?_
          refine tV 3 ⟨some 23, .move (.tmp 5), _, _, _, some (2, false)⟩ hS ?_
          refine tV 4 ⟨some 24, .call { callee := .builtin .len, args := #[.tmp 23], argTypes := #[72] }, _, _, _, some (2, false)⟩ hS ?_
          refine tV 5 ⟨some 25, .binOp .eql 3 (.tmp 24) (.const (.int .i64 0)) 3, _, _, _, some (2, false)⟩ hS ?_
          refine tV 6 ⟨some 26, .pick (.tmp 22) (.const (.bool true)) (.tmp 25), _, _, _, none⟩ hS ?_
          refine tV 7 ⟨some 27, .move (.tmp 26), _, _, _, none⟩ hS ?_
          refine tV 8 ⟨some 28, .move (.tmp 3), _, _, _, some (7, false)⟩ hS ?_
          refine tV 9 ⟨some 29, .binOp .gtr 3 (.tmp 28) (.const (.int .i64 0)) 3, _, _, _, some (7, false)⟩ hS ?_
          refine tV 10 ⟨some 30, .move (.tmp 29), _, _, _, some (7, false)⟩ hS ?_
          refine tV 11 ⟨some 31, .move (.tmp 0), _, _, _, some (10, true)⟩ hS ?_
          refine tV 12 ⟨some 32, .move (.tmp 3), _, _, _, some (10, true)⟩ hS ?_
          refine tV 13 ⟨some 33, .binOp .sub 3 (.tmp 32) (.const (.int .i64 1)) 3, _, _, _, some (10, true)⟩ hS ?_
          refine tV 14 ⟨some 34, .indexAddr 34 (.tmp 31) (.tmp 33), _, _, _, some (10, true)⟩ hS ?_
          refine tV 15 ⟨some 35, .fieldAddr 57 (.tmp 34) 0, _, _, _, some (10, true)⟩ hS ?_
          refine tL 16 ⟨some 36, .load 9 (.tmp 35), _, _, _, some (10, true)⟩ hS ?_
          refine tV 17 ⟨some 37, .fieldAddr 57 (.tmp 4) 0, _, _, _, some (10, true)⟩ hS ?_
          refine tL 18 ⟨some 38, .load 9 (.tmp 37), _, _, _, some (10, true)⟩ hS ?_
          refine wpAnyH_ready (rs := [19]) (by kernel_rfl) (by simp) ?_
          refine (AllReadyH.cons (o := ⟨some 39, .call { callee := .value (.func 19), args := #[.tmp 36, .tmp 38], argTypes := #[9, 9] }, _, _, _, some (10, true)⟩) rfl (fun K hK => ?_) AllReadyH.nil)
          (go_simp; refine (HO2.out _ _ hO).mono ?_; clear hO; rintro e w5 ⟨v, h1, h2, hO⟩; cases h1; cases h2)
          refine hK.out _ _ ⟨(FB.out _ (hO.suf sfx)).1, (FB.out _ (hO.suf sfx)).2.1, (FB.out _ (hO.suf sfx)).2.2, (f1.out _ (hO.suf sfx)).2.1⟩ (fun hS => ?_)
          clear hK K
          try simp only [Act.put, sb, s0, sz]
          refine tV 20 ⟨some 40, .binOp .geq 3 (.tmp 39) (.const (.int .i64 0)) 3, _, _, _, some (10, true)⟩ hS ?_
          refine tV 21 ⟨some 41, .pick (.tmp 30) (.tmp 40) (.const (.bool false)), _, _, _, some (7, false)⟩ hS ?_
          refine tV 22 ⟨some 42, .pick (.tmp 27) (.const (.bool true)) (.tmp 41), _, _, _, none⟩ hS ?_
          refine tV 23 ⟨some 43, .move (.tmp 42), _, _, _, none⟩ hS ?_
          refine tU 24 ⟨some 44, .fieldAddr 57 (.tmp 4) 1, _, _, _, some (23, false)⟩ hS ?_
          refine tU 25 ⟨some 45, .load 55 (.tmp 44), _, _, _, some (23, false)⟩ hS ?_
          refine tU 26 ⟨some 46, .fieldAddr 57 (.tmp 4) 2, _, _, _, some (23, false)⟩ hS ?_
          refine tU 27 ⟨some 47, .load 55 (.tmp 46), _, _, _, some (23, false)⟩ hS ?_
          refine tU 28 ⟨some 48, .binOp .eql 55 (.tmp 45) (.tmp 47) 55, _, _, _, some (23, false)⟩ hS ?_
          refine tV 29 ⟨some 49, .pick (.tmp 43) (.const (.bool true)) (.tmp 48), _, _, _, none⟩ hS ?_
          refine tV 30 ⟨some 50, .move (.tmp 49), _, _, _, none⟩ hS ?_
          refine tU 31 ⟨some 51, .fieldAddr 57 (.tmp 4) 1, _, _, _, some (30, false)⟩ hS ?_
          refine tU 32 ⟨some 52, .load 55 (.tmp 51), _, _, _, some (30, false)⟩ hS ?_
          refine tU 33 ⟨some 53, .call { callee := .value (.func 49), args := #[.tmp 52], argTypes := #[55] }, _, _, _, some (30, false)⟩ hS ?_
          refine tU 34 ⟨some 54, .unOp Go.UnOp.not 4 (.tmp 53), _, _, _, some (30, false)⟩ hS ?_
          refine tV 35 ⟨some 55, .pick (.tmp 50) (.const (.bool true)) (.tmp 54), _, _, _, none⟩ hS ?_
          refine tV 36 ⟨some 56, .move (.tmp 55), _, _, _, none⟩ hS ?_
          refine tU 37 ⟨some 57, .fieldAddr 57 (.tmp 4) 2, _, _, _, some (36, false)⟩ hS ?_
          refine tU 38 ⟨some 58, .load 55 (.tmp 57), _, _, _, some (36, false)⟩ hS ?_
          refine tU 39 ⟨some 59, .call { callee := .value (.func 49), args := #[.tmp 58], argTypes := #[55] }, _, _, _, some (36, false)⟩ hS ?_
          refine tU 40 ⟨some 60, .unOp Go.UnOp.not 4 (.tmp 59), _, _, _, some (36, false)⟩ hS ?_
          refine tV 41 ⟨some 61, .pick (.tmp 56) (.const (.bool true)) (.tmp 60), _, _, _, none⟩ hS ?_
          refine wpAnyH_done (by kernel_rfl) ?_ _
          all_goals
            clear hS hE
            have hE := hO.tail.tail
            clear hO
            go_wp2
            refine bodyPost_ret (results_tmp rfl _ _ _) rfl ?_
            exact ⟨_, rfl, .mk false hE (iff_of_false (by decide) (fun h => by have := (Hst.out.2 h).2 _ Hla.out; rw [Hls.out] at this; cases this))⟩
        · have Hls := SL.hid h1
          rw [ho] at HO2
          clear ho h1 h2 hyl
          have hO := hE.drew
          refine wp_region_held_drew (S := (fun w' => ((Instr.loadAt 9 (.pointer (some ⟨b4, 0, none⟩))).run Tryd.prog w' = .ok (.string ⟨xp.toArray⟩) w') ∧ ((Instr.loadAt 55 (.pointer (some ⟨b4, 1, none⟩))).run Tryd.prog w' = .ok (.agg #[.bool qt, .bool qd, .string ⟨qb.toArray⟩]) w') ∧ ((Instr.loadAt 55 (.pointer (some ⟨b4, 4, none⟩))).run Tryd.prog w' = .ok (.agg #[.bool ut, .bool ud, .string ⟨ub.toArray⟩]) w') ∧ ((Instr.loadAt 9 (.pointer (some ⟨b, off + j * 7, none⟩))).run Tryd.prog w' = .ok (.string ⟨y.path.toArray⟩) w'))) (by kernel_rfl) ⟨(FB.out _ (hO.suf sfx)).1, (FB.out _ (hO.suf sfx)).2.1, (FB.out _ (hO.suf sfx)).2.2, (f1.out _ (hO.suf sfx)).2.1⟩ (fun hS => ?_)
          refine tV 0 ⟨some 20, .move (.tmp 6), _, _, _, none⟩ hS ?_
          refine tV 1 ⟨some 21, .binOp .neq 31 (.tmp 20) (.const (.int .i64 0)) 31, _, _, _, none⟩ hS ?_
          refine tV 2 ⟨some 22, .move (.tmp 21), _, _, _, none⟩ hS ?_
          refine tV 3 ⟨some 23, .move (.tmp 5), _, _, _, some (2, false)⟩ hS ?_
          refine tV 4 ⟨some 24, .call { callee := .builtin .len, args := #[.tmp 23], argTypes := #[72] }, _, _, _, some (2, false)⟩ hS ?_
          refine tV 5 ⟨some 25, .binOp .eql 3 (.tmp 24) (.const (.int .i64 0)) 3, _, _, _, some (2, false)⟩ hS ?_
          refine tV 6 ⟨some 26, .pick (.tmp 22) (.const (.bool true)) (.tmp 25), _, _, _, none⟩ hS ?_
          refine tV 7 ⟨some 27, .move (.tmp 26), _, _, _, none⟩ hS ?_
          refine tV 8 ⟨some 28, .move (.tmp 3), _, _, _, some (7, false)⟩ hS ?_
          refine tV 9 ⟨some 29, .binOp .gtr 3 (.tmp 28) (.const (.int .i64 0)) 3, _, _, _, some (7, false)⟩ hS ?_
          refine tV 10 ⟨some 30, .move (.tmp 29), _, _, _, some (7, false)⟩ hS ?_
          refine tV 11 ⟨some 31, .move (.tmp 0), _, _, _, some (10, true)⟩ hS ?_
          refine tV 12 ⟨some 32, .move (.tmp 3), _, _, _, some (10, true)⟩ hS ?_
          refine tV 13 ⟨some 33, .binOp .sub 3 (.tmp 32) (.const (.int .i64 1)) 3, _, _, _, some (10, true)⟩ hS ?_
          refine tV 14 ⟨some 34, .indexAddr 34 (.tmp 31) (.tmp 33), _, _, _, some (10, true)⟩ hS ?_
          refine tV 15 ⟨some 35, .fieldAddr 57 (.tmp 34) 0, _, _, _, some (10, true)⟩ hS ?_
          refine tL 16 ⟨some 36, .load 9 (.tmp 35), _, _, _, some (10, true)⟩ hS ?_
          refine tV 17 ⟨some 37, .fieldAddr 57 (.tmp 4) 0, _, _, _, some (10, true)⟩ hS ?_
          refine tL 18 ⟨some 38, .load 9 (.tmp 37), _, _, _, some (10, true)⟩ hS ?_
          refine wpAnyH_ready (rs := [19]) (by kernel_rfl) (by simp) ?_
          refine (AllReadyH.cons (o := ⟨some 39, .call { callee := .value (.func 19), args := #[.tmp 36, .tmp 38], argTypes := #[9, 9] }, _, _, _, some (10, true)⟩) rfl (fun K hK => ?_) AllReadyH.nil)
          (go_simp; refine (HO2.out _ _ hO).mono ?_; clear hO; rintro e w5 ⟨v, h1, h2, hO⟩; cases h1; cases h2)
          refine hK.out _ _ ⟨(FB.out _ (hO.suf sfx)).1, (FB.out _ (hO.suf sfx)).2.1, (FB.out _ (hO.suf sfx)).2.2, (f1.out _ (hO.suf sfx)).2.1⟩ (fun hS => ?_)
          clear hK K
          try simp only [Act.put, sb, s0, sz]
          refine tV 20 ⟨some 40, .binOp .geq 3 (.tmp 39) (.const (.int .i64 0)) 3, _, _, _, some (10, true)⟩ hS ?_
          refine tV 21 ⟨some 41, .pick (.tmp 30) (.tmp 40) (.const (.bool false)), _, _, _, some (7, false)⟩ hS ?_
          refine tV 22 ⟨some 42, .pick (.tmp 27) (.const (.bool true)) (.tmp 41), _, _, _, none⟩ hS ?_
          refine tV 23 ⟨some 43, .move (.tmp 42), _, _, _, none⟩ hS ?_
          refine tU 24 ⟨some 44, .fieldAddr 57 (.tmp 4) 1, _, _, _, some (23, false)⟩ hS ?_
          refine tU 25 ⟨some 45, .load 55 (.tmp 44), _, _, _, some (23, false)⟩ hS ?_
          refine tU 26 ⟨some 46, .fieldAddr 57 (.tmp 4) 2, _, _, _, some (23, false)⟩ hS ?_
          refine tU 27 ⟨some 47, .load 55 (.tmp 46), _, _, _, some (23, false)⟩ hS ?_
          refine tU 28 ⟨some 48, .binOp .eql 55 (.tmp 45) (.tmp 47) 55, _, _, _, some (23, false)⟩ hS ?_
          refine tV 29 ⟨some 49, .pick (.tmp 43) (.const (.bool true)) (.tmp 48), _, _, _, none⟩ hS ?_
          refine tV 30 ⟨some 50, .move (.tmp 49), _, _, _, none⟩ hS ?_
          refine tU 31 ⟨some 51, .fieldAddr 57 (.tmp 4) 1, _, _, _, some (30, false)⟩ hS ?_
          refine tU 32 ⟨some 52, .load 55 (.tmp 51), _, _, _, some (30, false)⟩ hS ?_
          refine tU 33 ⟨some 53, .call { callee := .value (.func 49), args := #[.tmp 52], argTypes := #[55] }, _, _, _, some (30, false)⟩ hS ?_
          refine tU 34 ⟨some 54, .unOp Go.UnOp.not 4 (.tmp 53), _, _, _, some (30, false)⟩ hS ?_
          refine tV 35 ⟨some 55, .pick (.tmp 50) (.const (.bool true)) (.tmp 54), _, _, _, none⟩ hS ?_
          refine tV 36 ⟨some 56, .move (.tmp 55), _, _, _, none⟩ hS ?_
          refine tU 37 ⟨some 57, .fieldAddr 57 (.tmp 4) 2, _, _, _, some (36, false)⟩ hS ?_
          refine tU 38 ⟨some 58, .load 55 (.tmp 57), _, _, _, some (36, false)⟩ hS ?_
          refine tU 39 ⟨some 59, .call { callee := .value (.func 49), args := #[.tmp 58], argTypes := #[55] }, _, _, _, some (36, false)⟩ hS ?_
          refine tU 40 ⟨some 60, .unOp Go.UnOp.not 4 (.tmp 59), _, _, _, some (36, false)⟩ hS ?_
          refine tV 41 ⟨some 61, .pick (.tmp 56) (.const (.bool true)) (.tmp 60), _, _, _, none⟩ hS ?_
          refine wpAnyH_done (by kernel_rfl) ?_ _
          all_goals
            clear hS hE
            have hE := hO.tail.tail
            clear hO
            go_wp2
            refine bodyPost_ret (results_tmp rfl _ _ _) rfl ?_
            exact ⟨_, rfl, .mk false hE (iff_of_false (by decide) (fun h => by have := (Hst.out.2 h).2 _ Hla.out; rw [Hls.out] at this; cases this))⟩
    · obtain rfl : k = es.length := by omega
      rw [List.take_length] at hpre
      have R := SL.hid hpre
      clear hpre
      go_wp2
      refine bodyPost_ret (results_tmp rfl _ _ _) rfl ?_
      exact ⟨_, rfl, .mk true hE (iff_of_true rfl R.out)⟩
end Go.Proofs.YtljfkejkohmimaaDoor
namespace Go.Proofs.YtljfkejkohmimaaDoor
open Go.RowKit Go.SL

theorem kid_cell {b : Nat} {x y v : Value} {R : List HProp} {w : World} (_ : Ent (pt b (.cells #[x, y, v] 26) :: R) w) : ∀ w, Ent (pt b (.cells #[x, y, v] 26) :: R) w → (Instr.loadAt 24 (.pointer (some ⟨b, 2, none⟩))).run Tryd.prog w = .ok v w := fun _ h => run_load1 h 0 rfl (by simp [go_sem]) rfl
theorem side_field (x y : Value) (b : List UInt8) (w : World) : (Instr.field 55 (.agg #[x, y, .string ⟨b.toArray⟩]) 2).run Tryd.prog w = .ok (.string ⟨b.toArray⟩) w := by
  have ht : Tryd.prog.underlying 55 = some (.struct (Tryd.prog.fieldsOf 55)) := by kernel_rfl
  have hf : ((Tryd.prog.fieldsOf 55)[2]?).map (fun f => (f.type, f.offset)) = some (9, 2) := by kernel_rfl
  obtain ⟨f, h1, h2⟩ := Option.map_eq_some_iff.1 hf
  simp only [Prod.mk.injEq] at h2
  have hA : ∀ w, (isAgg 9).run Tryd.prog w = .ok false w := fun w => by simp [go_sem]
  have hA : ∀ w, (isAgg f.type).run Tryd.prog w = .ok false w := fun w => by rw [h2.1]; exact hA w
  simp [Instr.field, run_underlying ht, h1, part, hA, h2.2, asAgg]
theorem row_knows {ao : Option Addr} {c : Nat} {xs : List Ch} {R : List HProp} {w : World} (_ : Ent (rowCh ao c xs :: R) w) : Knows (rowCh ao c xs :: R) (reads (.slice ao xs.length c) xs.length (xs.flatMap chC)) := fun _ h => reads_row h 0 rfl
theorem wl_loads {L : List HProp} {a : Option Addr} {c : Nat} (hk : Knows L (reads (.slice a 2 c) 2 (wl.flatMap chC))) {w : World} (hE : Ent L w) : ∃ g o, a = some ⟨g, o, none⟩ ∧ ∀ w, Ent L w →
    (Instr.loadAt 57 (.pointer (some ⟨g, o, none⟩))).run Tryd.prog w = .ok (.agg #[.string ⟨#[100]⟩, .bool true, .bool true, .string ⟨#[]⟩, .bool true, .bool false, .string ⟨#[97, 98]⟩]) w ∧
    (Instr.loadAt 9 (.pointer (some ⟨g, o + 7, none⟩))).run Tryd.prog w = .ok (.string ⟨#[100, 47, 120]⟩) w ∧
    (Instr.loadAt 4 (.pointer (some ⟨g, o + 7 + 4, none⟩))).run Tryd.prog w = .ok (.bool false) w := by
  obtain ⟨g, o, rfl, _⟩ := ch_at (xs := wl) (hk _ hE) (k := 0) (by decide)
  refine ⟨g, o, rfl, fun w h => ?_⟩
  have h0 := (load_dc (xs := wl) (hk w h) (k := 0) (by decide)).1
  have h1 := (load_dc (xs := wl) (hk w h) (k := 1) (by decide)).2.1
  obtain ⟨b', o', e, hz⟩ := ch_at (xs := wl) (hk w h) (k := 1) (by decide)
  cases e
  rw [Nat.zero_mul, Nat.add_zero] at h0
  rw [Nat.one_mul] at h1
  have h2 := hz 4 (.bool false) rfl
  rw [Nat.one_mul] at h2
  exact ⟨h0, h1, atCell h2 (by simp [go_sem])⟩
theorem kid_data {L : List HProp} {a : Option Addr} {c : Nat} (hk : KidsAt L (.slice a 1 c) W2.kids) {w : World} (hE : Ent L w) : ∃ g o, a = some ⟨g, o, none⟩ ∧ ∀ w, Ent L w → (Instr.loadAt 9 (.pointer (some ⟨g, o + 1 + 1, none⟩))).run Tryd.prog w = .ok (.string ⟨#[97, 98]⟩) w := by
  obtain ⟨ao, c', vs, e, _, hl, hr, _, _⟩ := hk.open
  cases e
  obtain ⟨v, rfl⟩ : ∃ v, vs = [v] := by
    match vs, hl with
    | [v], _ => exact ⟨v, rfl⟩
  obtain ⟨g, o, rfl, _⟩ := reads_form (hr _ hE) (by decide) (by rw [kCs_len rfl]; decide)
  refine ⟨g, o, rfl, fun w h => ?_⟩
  obtain ⟨b', o', e, hz⟩ := reads_form (hr w h) (by decide) (by rw [kCs_len rfl]; decide)
  cases e
  exact atCell (hz 2 (.string ⟨#[97, 98]⟩) rfl) (by simp [go_sem])
set_option maxRecDepth 100000 in
set_option maxHeartbeats 8000000 in
attribute [-go_sem] Instr.loadAt Go.run_equalIn_agg in
theorem wakes28_any {l : List HProp} {w : World} (hE : Ent l w) : Calls Tryd.prog 7 #[] w (Ret fun v w' => v = .bool true ∧ ∃ m, Ent (m ++ l) w') := by
  have HB1 := SL.hid (fun (b : Nat) (L : List HProp) (w : World) (hE : Ent (pt b (.cells #[.string ⟨#[100]⟩, .bool true, .string ⟨#[]⟩, .string ⟨#[100, 47, 120]⟩, .bool false, .string ⟨#[97, 98]⟩] 53) :: L) w) =>
    show Calls Tryd.prog 17 #[.slice (some ⟨b, 0, none⟩) 2 2] w (Ret fun v w' => ∃ m a c, v = .tuple #[.agg #[.bool true, .string ⟨#[]⟩, .slice a 1 c], .int .i64 0] ∧ Ent (m ++ L) w' ∧ KidsAt (m ++ L) (.slice a 1 c) W1.kids) from by
      refine (Build_any (es := we1) (by decide) (fun x hx => by simp only [we1, List.mem_cons, List.not_mem_nil, or_false] at hx; rcases hx with rfl | rfl <;> exact ⟨by decide, by decide⟩) (fun w h => reads_pt h 0 rfl (off := 0) (fun j u hu => by rw [Nat.zero_add, List.getElem?_toArray]; exact hu)) hE).mono ?_
      rintro e w' ⟨v, rfl, m, kv, h, hE, hk⟩
      rw [wb1] at h hk
      obtain ⟨a, c, rfl⟩ := hk.slice
      exact ⟨_, rfl, m ++ [pt b (.cells #[.string ⟨#[100]⟩, .bool true, .string ⟨#[]⟩, .string ⟨#[100, 47, 120]⟩, .bool false, .string ⟨#[97, 98]⟩] 53)], a, c, h, by rw [List.append_assoc]; exact hE, by rw [List.append_assoc]; exact hk⟩)
  have HB2 := SL.hid (fun (b : Nat) (L : List HProp) (w : World) (hE : Ent (pt b (.cells #[.string ⟨#[100]⟩, .bool false, .string ⟨#[97, 98]⟩] 53) :: L) w) =>
    show Calls Tryd.prog 17 #[.slice (some ⟨b, 0, none⟩) 1 1] w (Ret fun v w' => ∃ m a c, v = .tuple #[.agg #[.bool true, .string ⟨#[]⟩, .slice a 1 c], .int .i64 0] ∧ Ent (m ++ L) w' ∧ KidsAt (m ++ L) (.slice a 1 c) W2.kids) from by
      refine (Build_any (es := we2) (by decide) (fun x hx => by simp only [we2, List.mem_cons, List.not_mem_nil, or_false] at hx; subst hx; exact ⟨by decide, by decide⟩) (fun w h => reads_pt h 0 rfl (off := 0) (fun j u hu => by rw [Nat.zero_add, List.getElem?_toArray]; exact hu)) hE).mono ?_
      rintro e w' ⟨v, rfl, m, kv, h, hE, hk⟩
      rw [wb2] at h hk
      obtain ⟨a, c, rfl⟩ := hk.slice
      exact ⟨_, rfl, m ++ [pt b (.cells #[.string ⟨#[100]⟩, .bool false, .string ⟨#[97, 98]⟩] 53)], a, c, h, by rw [List.append_assoc]; exact hE, by rw [List.append_assoc]; exact hk⟩)
  have HD := SL.hid (fun (a a2 : Option Addr) (c c2 : Nat) (L : List HProp) (w : World) (hk : KidsAt L (.slice a 1 c) W1.kids) (hk2 : KidsAt L (.slice a2 1 c2) W2.kids) (hE : Ent L w) =>
    show Calls Tryd.prog 14 #[.agg #[.bool true, .string ⟨#[]⟩, .slice a 1 c], .agg #[.bool true, .string ⟨#[]⟩, .slice a2 1 c2]] w (Ret fun v w' => ∃ ao c m, v = .slice ao 2 c ∧ Ent (rowCh ao c wl :: (m ++ L)) w') from by
      have h := Diff_any ww1 ww2 (by rw [wa1]; decide) (by rw [wa2]; decide) hk hk2 hE
      rw [wa1, wa2, wd] at h
      exact h)
  have HP1 := SL.hid (fun (a : Option Addr) (c : Nat) (a2 : Option Addr) (c2 : Nat) (hc2 : 2 ≤ c2) (L : List HProp) (w : World) (hk : KidsAt L (.slice a 1 c) W1.kids) (hr : Knows L (reads (.slice a2 2 c2) 2 (wl.flatMap chC))) (hE : Ent L w) =>
    show Calls Tryd.prog 8 #[.agg #[.bool true, .string ⟨#[]⟩, .slice a 1 c], .slice a2 2 c2] w (Ret fun v w' => ∃ m a c, v = .tuple #[.agg #[.bool true, .string ⟨#[]⟩, .slice a 1 c], .int .i64 0] ∧ Ent (m ++ L) w' ∧ KidsAt (m ++ L) (.slice a 1 c) W2.kids) from by
      have h := Apply_in ww1 (cs := wl) (by rw [wa1]; decide) (by rw [wa1]; exact wlen3) wlen1 (ao := a2) (c := c2) hc2 hk (fun L' w' hs h => may_any (by decide) (fun x hx => (wlen1 x hx).1) (hr.suf hs) h) hr hE
      rw [wa1, wap1] at h
      refine h.mono ?_
      rintro e w' ⟨v, rfl, m, a', c', h, hE, hk⟩
      exact ⟨_, rfl, m, a', c', h, hE, hk⟩)
  have HP2 := SL.hid (fun (a : Option Addr) (c : Nat) (a2 : Option Addr) (c2 : Nat) (hc2 : 2 ≤ c2) (L : List HProp) (w : World) (hk : KidsAt L (.slice a 1 c) W1.kids) (hr : Knows L (reads (.slice a2 2 c2) 2 (wm.flatMap chC))) (hE : Ent L w) =>
    show Calls Tryd.prog 8 #[.agg #[.bool true, .string ⟨#[]⟩, .slice a 1 c], .slice a2 2 c2] w (Ret fun v w' => ∃ m a c, v = .tuple #[.agg #[.bool false, .string ⟨#[]⟩, .slice a 0 c], .int .i64 10] ∧ Ent (m ++ L) w') from by
      have h := Apply_in ww1 (cs := wm) (by rw [wa1]; decide) (by rw [wa1]; exact wlen3) wlen2 (ao := a2) (c := c2) hc2 hk (fun L' w' hs h => may_any (by decide) (fun x hx => (wlen2 x hx).1) (hr.suf hs) h) hr hE
      rw [wa1, wap2] at h
      refine h.mono ?_
      rintro e w' ⟨v, rfl, m, a', c', h, hE, hk⟩
      exact ⟨_, rfl, m, a', c', h, hE⟩)
  have HR := SL.hid (fun (a2 : Option Addr) (c2 : Nat) (L : List HProp) (w : World) (hr : Knows L (reads (.slice a2 2 c2) 2 (wl.flatMap chC))) (hE : Ent L w) =>
    show Calls Tryd.prog 18 #[.slice a2 2 c2] w (Ret fun v w' => ∃ ao c, v = .tuple #[.slice ao 2 c, .int .i64 0] ∧ Ent (rowCh ao c wm :: L) w') from by
      have h := Reverse_in (es := wl) (by decide) (ao := a2) (c := c2) (fun w' h => may_any (by decide) (fun x hx => (wlen1 x hx).1) hr h) hr hE
      rw [wrv1, wrv2] at h
      exact h)
  have HC := SL.hid (fun (a2 : Option Addr) (c2 : Nat) (a3 : Option Addr) (c3 : Nat) (hc2 : 2 ≤ c2) (hc3 : 2 ≤ c3) (L : List HProp) (w : World) (hr : Knows L (reads (.slice a2 2 c2) 2 (wl.flatMap chC))) (hr2 : Knows L (reads (.slice a3 2 c3) 2 (wm.flatMap chC))) (hE : Ent L w) =>
    show Calls Tryd.prog 13 #[.slice a2 2 c2, .slice a3 2 c3] w (Ret fun v w' => ∃ ao c m, v = .tuple #[.slice ao 0 c, .int .i64 0] ∧ Ent (m ++ L) w') from by
      have h := Compose_in (a := wl) (b := wm) (by decide) (by decide) (fun x hx => (wlen1 x hx).1) (fun x hx => (wlen2 x hx).1) (aa := a2) (ab := a3) (ca := c2) (cb := c3) hc2 hc3 (fun w' h => may_any (by decide) (fun x hx => (wlen1 x hx).1) hr h) (fun w' h => may_any (by decide) (fun x hx => (wlen2 x hx).1) hr2 h) hr hr2 hE
      rw [wcm1, wcm2] at h
      refine h.mono ?_
      rintro e w' ⟨v, rfl, ao, c, m, h, hE⟩
      exact ⟨_, rfl, ao, c, m, h, hE.tail⟩)
  have HO := SL.hid (fun (L : List HProp) (w : World) (hE : Ent L w) =>
    show Calls Tryd.prog 19 #[.string ⟨#[97, 47, 98]⟩, .string ⟨#[97, 33]⟩] w (Ret fun v w' => v = .int .i64 (-1) ∧ Ent L w') from by
      have h := Order_any (p := [97, 47, 98]) (q := [97, 33]) (by decide) (by decide) hE
      rw [word] at h
      exact h)
  have HF := SL.hid (fun (a : Option Addr) (c : Nat) (L : List HProp) (w : World) (hk : KidsAt L (.slice a 1 c) W1.kids) (hE : Ent L w) =>
    show Calls Tryd.prog 20 #[.agg #[.bool true, .string ⟨#[]⟩, .slice a 1 c], .string ⟨#[100, 47, 120]⟩] w (Ret fun v w' => v = .agg #[.bool true, .bool false, .string ⟨#[97, 98]⟩] ∧ ∃ m, Ent (m ++ L) w') from by
      have h := Of_any ww1 (p := [100, 47, 120]) (by decide) hk hE
      rw [wof] at h
      exact h)
  have hEq : ∀ w, (Op.equalIn 10000 57 (.agg #[.string ⟨#[100]⟩, .bool true, .bool true, .string ⟨#[]⟩, .bool true, .bool false, .string ⟨#[97, 98]⟩]) (.agg #[.string ⟨#[100]⟩, .bool true, .bool true, .string ⟨#[]⟩, .bool true, .bool false, .string ⟨#[97, 98]⟩])).run Tryd.prog w = .ok true w := fun w => by
    have := eqCh ⟨[100], ⟨true, true, []⟩, ⟨true, false, [97, 98]⟩⟩ ⟨[100], ⟨true, true, []⟩, ⟨true, false, [97, 98]⟩⟩ w
    rwa [beq_self_eq_true] at this
  have hfld := side_field (.bool true) (.bool false) [97, 98]
  have A1 := SL.hid True.intro
  have A2 := SL.hid True.intro
  go_enter Tryd.func7, Tryd.ntmps7
  go_wp2_with (first
    | go_skip
    | ((with_reducible (show Go.wpList _ _ _ (Go.Oper.mk _ (.buildSlice 22 2 _) _ _ _ _ :: _) _ _)); refine wpl_build2 hE rfl rfl (xs := [.string ⟨#[100]⟩, .bool true, .string ⟨#[]⟩]) (ys := [.string ⟨#[100, 47, 120]⟩, .bool false, .string ⟨#[97, 98]⟩]) rfl rfl Tryd.underlying22 zs_en Tryd.sizeOf53 (by decide) (by decide) rfl rfl ?_; clear hE; intro s1 w hE)
    | ((with_reducible (show Go.wpList _ _ _ (Go.Oper.mk _ (.buildSlice 22 1 _) _ _ _ _ :: _) _ _)); refine wpl_build1 hE rfl rfl (xs := [.string ⟨#[100]⟩, .bool false, .string ⟨#[97, 98]⟩]) rfl Tryd.underlying22 zs_en Tryd.sizeOf53 (by decide) (by decide) rfl ?_; clear hE; intro s2 w hE)
    | (clear A1; go_at_call 17; refine (HB1.out _ _ _ hE).mono ?_; clear hE; rintro e w2 ⟨v, h1, m1, ka, kc, h2, hE, hK1⟩; cases h1; cases h2)
    | (go_at_call 17; refine (HB2.out _ _ _ hE).mono ?_; clear hE; rintro e w2 ⟨v, h1, m2, kb, kd, h2, hE, hK2⟩; cases h1; cases h2)
    | ((with_reducible (show Go.wpList _ _ _ (Go.Oper.mk _ (.alloc 26) _ _ _ _ :: _) _ _)); refine wpl_alloc hE rfl rfl (by simp [go_sem]; rfl) ?_; clear hE; intro b w hE; simp only [Act.eval, Act.put, List.setIfInBounds_toArray, List.set_cons_zero, List.set_cons_succ, getD_lit, List.getD_cons_succ, List.getD_cons_zero, Value.cells] at hE)
    | ((with_reducible (show Go.wpList _ _ _ (Go.Oper.mk _ (.store 26 (.tmp 1) _) _ _ _ _ :: _) _ _)); refine wpl_storeW hE 0 rfl rfl rfl (xs := [_, _, _]) rfl rfl Tryd.sizeOf26 rfl (by simp [Value.oneCell']) rfl ?_; clear hE; intro w hE; simp only [List.set_cons_zero] at hE; have F1 := SL.hid (fun w h => atWm (t := 26) (P := Tryd.prog) (h : Ent (pt b (.cells #[.bool true, .string ⟨#[]⟩, .slice ka 1 kc] 26) :: (m1 ++ l)) w) (by repeat (first | exact List.Mem.head _ | refine List.Mem.tail _ ?_)) Tryd.isAgg26 Tryd.sizeOf26 rfl))
    | ((with_reducible (show Go.wpList _ _ _ (Go.Oper.mk _ (.store 26 (.tmp 3) _) _ _ _ _ :: _) _ _)); refine wpl_storeW hE 0 rfl rfl rfl (xs := [_, _, _]) rfl rfl Tryd.sizeOf26 rfl (by simp [Value.oneCell']) rfl ?_; clear hE; intro w hE; simp only [List.set_cons_zero] at hE)
    | ((with_reducible (show Go.wpList _ _ _ (Go.Oper.mk _ (.load 26 (.tmp 1)) _ _ _ _ :: _) _ _)); refine wpl_loadF rfl rfl rfl (F1.out _ (hE.suf sfx)) ?_)
    | ((with_reducible (show Go.wpList _ _ _ (Go.Oper.mk _ (.load 26 (.tmp 3)) _ _ _ _ :: _) _ _)); refine wpl_loadW hE 0 rfl rfl rfl rfl Tryd.isAgg26 Tryd.sizeOf26 rfl ?_)
    | (go_at_call 14; refine (HD.out _ _ _ _ _ _ (hK1.suf sfx) (hK2.suf sfx) hE).mono ?_; clear hE; rintro e w2 ⟨v, h1, a3, c3, m3, h2, hE⟩; cases h1; cases h2; have hc3 := SL.hid (row_capQ hE 0 rfl); have HKl := SL.hid (row_knows hE); obtain ⟨g3, o3, h3, G3⟩ := wl_loads HKl.out hE; cases h3; have G3 := SL.hid G3)
    | (clear A2; go_at_call 8; refine (HP1.out _ _ _ _ hc3.out _ _ (hK1.suf sfx) (HKl.out.suf sfx) hE).mono ?_; clear hE; rintro e w2 ⟨v, h1, m6, a6, c6, h2, hE, hK6⟩; cases h1; cases h2; obtain ⟨g6, o6, h6, G6⟩ := kid_data hK6 hE; cases h6; have G6 := SL.hid G6)
    | ((with_reducible (show Go.wpList _ _ _ (Go.Oper.mk _ (.store 26 (.tmp 6) _) _ _ _ _ :: _) _ _)); refine wpl_storeW hE 0 rfl rfl rfl (xs := [_, _, _]) rfl rfl Tryd.sizeOf26 rfl (by simp [Value.oneCell']) rfl ?_; clear hE; intro w hE; simp only [List.set_cons_zero] at hE; have F6 := SL.hid (kid_cell hE))
    | (go_at_call 18; refine (HR.out _ _ _ _ (HKl.out.suf sfx) hE).mono ?_; clear hE; rintro e w2 ⟨v, h1, a7, c7, h2, hE⟩; cases h1; cases h2; have hc7 := SL.hid (row_capQ hE 0 rfl); have HKm := SL.hid (row_knows hE))
    | (go_at_call 8; refine (HP2.out _ _ _ _ hc7.out _ _ (hK1.suf sfx) (HKm.out.suf sfx) hE).mono ?_; clear hE; rintro e w2 ⟨v, h1, m8, a8, c8, h2, hE⟩; cases h1; cases h2)
    | ((with_reducible (show Go.wpList _ _ _ (Go.Oper.mk _ (.store 26 (.tmp 10) _) _ _ _ _ :: _) _ _)); refine wpl_storeW hE 0 rfl rfl rfl (xs := [_, _, _]) rfl rfl Tryd.sizeOf26 rfl (by simp [Value.oneCell']) rfl ?_; clear hE; intro w hE; simp only [List.set_cons_zero] at hE)
    | (go_at_call 13; refine (HC.out _ _ _ _ hc3.out hc7.out _ _ (HKl.out.suf sfx) (HKm.out.suf sfx) hE).mono ?_; clear hE; rintro e w2 ⟨v, h1, a9, c9, m9, h2, hE⟩; cases h1; cases h2)
    | ((with_reducible (show Go.wpList _ _ _ (Go.Oper.mk _ (.load 57 _) _ _ _ _ :: _) _ _)); refine wpl_loadF rfl rfl rfl (G3.out _ (hE.suf sfx)).1 ?_)
    | ((with_reducible (show Go.wpList _ _ _ (Go.Oper.mk _ (.load 9 (.tmp 74)) _ _ _ _ :: _) _ _)); refine wpl_loadF rfl rfl rfl (G3.out _ (hE.suf sfx)).2.1 ?_)
    | ((with_reducible (show Go.wpList _ _ _ (Go.Oper.mk _ (.load 4 _) _ _ _ _ :: _) _ _)); refine wpl_loadF rfl rfl rfl (G3.out _ (hE.suf sfx)).2.2 ?_)
    | ((with_reducible (show Go.wpList _ _ _ (Go.Oper.mk _ (.load 24 _) _ _ _ _ :: _) _ _)); refine wpl_loadF rfl rfl rfl (F6.out _ (hE.suf sfx)) ?_)
    | ((with_reducible (show Go.wpList _ _ _ (Go.Oper.mk _ (.load 9 (.tmp 95)) _ _ _ _ :: _) _ _)); refine wpl_loadF rfl rfl rfl (G6.out _ (hE.suf sfx)) ?_)
    | (go_at_call 19; refine (HO.out _ _ hE).mono ?_; clear hE; rintro e w2 ⟨v, h1, h2, hE⟩; cases h1; cases h2)
    | (go_at_call 20; refine (HF.out _ _ _ _ (hK1.suf sfx) hE).mono ?_; clear hE; rintro e w2 ⟨v, h1, h2, m5, hE⟩; cases h1; cases h2))
  refine bodyPost_ret (results_tmp rfl _ _ _) rfl ?_
  exact ⟨_, rfl, rfl, [], hE.drop.drop.tail.drop.tail.tail.drop.tail.drop.tail.drop.tail.drop⟩
end Go.Proofs.YtljfkejkohmimaaDoor
namespace Go.Proofs.YtljfkejkohmimaaDoor
open Go.RowKit Go.SL

theorem treeP_good {es : List En} {t : Tr} (h : treeP es = some t) : great es = false ∧ Good t es := by
  have hgr : great es = false := by
    cases hg : great es with
    | false => rfl
    | true => rw [treeP, if_pos hg] at h; cases h
  rw [treeP, if_neg (by rw [hgr]; simp)] at h
  have h0 : (buildT es).1 = 0 := by
    by_cases h0 : (buildT es).1 = 0
    · exact h0
    · rw [if_neg h0] at h; cases h
  rw [if_pos h0] at h
  have ht : (buildT es).2 = t := Option.some.inj h
  have hG := ((build_same es).2 h0).1
  rw [((build_same es).2 h0).2, ht] at hG
  exact ⟨hgr, hG⟩
/-- what is known of a tree's entries -/
theorem tree_ents {es : List En} {t : Tr} (h : treeP es = some t) : Tr.Wf 6 t ∧ t.dir = true ∧ t.data = [] ∧ (entT 6 [] t).length ≤ 100 ∧ (∀ x ∈ entT 6 [] t, x.path.length ≤ 200 ∧ x.data.length ≤ 9000) ∧ (∀ x ∈ entT 6 [] t, x.path ≠ []) ∧ RiseP ((entT 6 [] t).map En.path) := by
  obtain ⟨hg, hG⟩ := treeP_good h
  obtain ⟨h1, h2⟩ := great_not.1 hg
  have hp := all_perm hG
  exact ⟨hG.2.1, hG.2.2.1, hG.2.2.2, by rw [hp.length_eq]; exact h1, fun x hx => h2 x (hp.mem_iff.1 hx), fun x hx => (ent_path hG.2.1 hx).2.2, ent_rise hG.2.1⟩
def TfPost (b : Bool) (l : List HProp) (v : Value) (w' : World) : Prop := ∃ (m : List HProp) (d : Bool) (s : ByteArray) (a : Option Addr) (n c : Nat) (a' : Option Addr) (n' c' : Nat), v = .tuple #[.agg #[.bool d, .string s, .slice a n c], .slice a' n' c', .bool b] ∧ Ent (m ++ l) w'
theorem Tree_tf {es : List En} {b : Bool} (h : (treeP es).isSome = b) {ao : Option Addr} {c : Nat} {l : List HProp} {w : World} (hk : Knows l (reads (.slice ao es.length c) es.length (es.flatMap enC))) (hE : Ent l w) :
    Calls Tryd.prog 5 #[.slice ao es.length c] w (Ret (TfPost b l)) := by
  cases ht : treeP es with
  | none =>
    rw [ht] at h
    subst h
    refine (Tree_none ht hk hE).mono ?_
    rintro e w' ⟨v, rfl, m, a, c, a', c', h, hE⟩
    exact ⟨_, rfl, m, _, _, a, 0, c, a', 0, c', h, hE⟩
  | some t =>
    rw [ht] at h
    subst h
    refine (Tree_good ht hk hE).mono ?_
    rintro e w' ⟨v, rfl, m, a, c, a', c', h, hE, _⟩
    exact ⟨_, rfl, m, _, _, a, _, c, a', _, c', h, hE⟩
theorem node_knows {b : Nat} {x y v : Value} {R : List HProp} {w : World} (_ : Ent (pt b (.cells #[x, y, v] 26) :: R) w) : ∀ w, Ent (pt b (.cells #[x, y, v] 26) :: R) w → (Instr.loadAt 26 (.pointer (some ⟨b, 0, none⟩))).run Tryd.prog w = .ok (.agg #[x, y, v]) w := fun _ h => atWm (vs := [x, y, v]) h (List.Mem.head _) Tryd.isAgg26 Tryd.sizeOf26 rfl
theorem node_false {b : Nat} {x y v : Value} {R : List HProp} {w : World} (_ : Ent (pt b (.cells #[x, y, v] 26) :: R) w) : ∀ w, Ent (pt b (.cells #[x, y, v] 26) :: R) w → (Instr.loadAt 4 (.pointer (some ⟨b, 0, none⟩))).run Tryd.prog w = .ok x w := fun _ h => run_load1 h 0 rfl (by simp [go_sem]) rfl
theorem rowRc_knows {ao : Option Addr} {c : Nat} {xs : List Ch} {R : List HProp} {w : World} (_ : Ent (rowRc ao c xs :: R) w) : Knows (rowRc ao c xs :: R) (reads (.slice ao xs.length c) xs.length (xs.flatMap chC)) := fun _ h => reads_row h 0 rfl
theorem rowEn_knows {ao : Option Addr} {c : Nat} {xs : List En} {R : List HProp} {w : World} (_ : Ent (rowEn ao c xs :: R) w) : Knows (rowEn ao c xs :: R) (reads (.slice ao xs.length c) xs.length (xs.flatMap enC)) := fun _ h => reads_row h 0 rfl
/-- the document's differences are the program's -/
theorem rdiff_same {a b : List En} (ha : ∀ x ∈ a, x.path ≠ []) (hb : ∀ x ∈ b, x.path ≠ []) : rDiffP a b = diffP a b := by
  unfold rDiffP diffP
  refine fm_congr fun k hk => ?_
  rw [sortK_mem, List.mem_append] at hk
  have hn : k ≠ [] := by
    rcases hk with h | h
    · obtain ⟨y, hy, rfl⟩ := List.mem_map.1 h
      exact ha y hy
    · obtain ⟨y, hy, rfl⟩ := List.mem_map.1 h
      exact hb y hy
  rw [rOf_fE hn, rOf_fE hn]
theorem diff_len (a b : List En) : (diffP a b).length ≤ a.length + b.length := by
  unfold diffP
  have h1 := List.length_filterMap_le (fun k => chg k (fE a k) (fE b k)) (sortK (a.map En.path ++ b.map En.path))
  have h2 := sortK_len (a.map En.path ++ b.map En.path)
  simp at h2
  omega
/-- what is known of the changes between two rows -/
theorem diff_ok {a b : List En} (ha : ∀ x ∈ a, x.path.length ≤ 200 ∧ x.data.length ≤ 9000) (hb : ∀ x ∈ b, x.path.length ≤ 200 ∧ x.data.length ≤ 9000) : ∀ x ∈ diffP a b, x.path.length ≤ 200 ∧ x.was.data.length ≤ 9000 ∧ x.now.data.length ≤ 9000 := by
  intro x hx
  obtain ⟨k, hk, h⟩ := List.mem_filterMap.1 hx
  rw [sortK_mem, List.mem_append] at hk
  have hs : ∀ (l : List En), (∀ x ∈ l, x.path.length ≤ 200 ∧ x.data.length ≤ 9000) → (fE l k).data.length ≤ 9000 := by
    intro l hl
    unfold fE
    cases hf : l.find? (fun x => x.path == k) with
    | none => simp [sideO, Sd.no]
    | some z => exact (hl z (List.mem_of_find?_eq_some hf)).2
  unfold chg at h
  split at h
  · cases h
  · cases h
    refine ⟨?_, hs a ha, hs b hb⟩
    rcases hk with h | h
    · obtain ⟨y, hy, rfl⟩ := List.mem_map.1 h
      exact (ha y hy).1
    · obtain ⟨y, hy, rfl⟩ := List.mem_map.1 h
      exact (hb y hy).1
end Go.Proofs.YtljfkejkohmimaaDoor
namespace Go.Proofs.YtljfkejkohmimaaDoor
open Go.RowKit Go.SL

set_option maxRecDepth 100000 in
set_option maxHeartbeats 8000000 in
attribute [-go_sem] Instr.loadAt Go.run_equalIn_agg in
theorem rMay_any {es : List Ch} (hn : es.length ≤ 100000) (hp : ∀ x ∈ es, x.path.length ≤ 100000) {ao : Option Addr} {c : Nat} {l : List HProp} {w : World} (hk : Knows l (reads (.slice ao es.length c) es.length (es.flatMap chC))) (hE : Ent l w) :
    Calls Tryd.prog 28 #[.slice ao es.length c] w (Ret (MPost es l)) := by
  have Hp := SL.hid hp
  clear hp
  go_enter Tryd.func28, Tryd.ntmps28
  go_wp2
  go_loopw [3] (fun i wr => MyRel es l i wr) (fun i _ => es.length - (intOf i).toNat)
  case atStart => exact ⟨0, Nat.zero_le _, rfl, by simpa using mayR_nil, hE⟩
  case round =>
    clear hE
    obtain ⟨k, hkl, rfl, hpre, hE⟩ := hrel
    by_cases hlt : k < es.length
    · obtain ⟨b, off, rfl, hz⟩ := ch_at (hk _ hE) hlt
      clear hz
      have f0 := SL.hid (show ∀ w, Ent l w → _ from fun w h => load_rc (hk w h) hlt)
      have Hst := SL.hid (mayR_at hlt hpre)
      have hxl := Hp.out es[k] (List.getElem_mem hlt)
      obtain ⟨x, hx⟩ : ∃ x, es[k] = x := ⟨_, rfl⟩
      have HX := SL.hid hx
      rw [hx] at f0 Hst hxl
      clear hx hpre
      obtain ⟨xp, ⟨qt, qd, qb⟩, ⟨ut, ud, ub⟩⟩ := x
      simp only [chC, sdC] at f0
      simp only at hxl
      have hg : goodC ⟨xp, ⟨qt, qd, qb⟩, ⟨ut, ud, ub⟩⟩ = (splitE xp == 0 && (!(splitL xp).isEmpty && (!((⟨qt, qd, qb⟩ : Sd) == ⟨ut, ud, ub⟩) && (maySd ⟨qt, qd, qb⟩ && maySd ⟨ut, ud, ub⟩)))) := rfl
      have HA := SL.hid (fun (L : List HProp) (w : World) (h : Ent L w) => rside_any ⟨qt, qd, qb⟩ h)
      have HB := SL.hid (fun (L : List HProp) (w : World) (h : Ent L w) => rside_any ⟨ut, ud, ub⟩ h)
      have hEq := fun w => eqSr 9998 ⟨qt, qd, qb⟩ ⟨ut, ud, ub⟩ w
      have HS := SL.hid (fun (L : List HProp) (w : World) (h : Ent L w) => rSplit_any (p := xp) (by omega) h)
      have HO := SL.hid (fun (L : List HProp) (w : World) (q : List UInt8) (hq : q.length ≤ 100000) (h : Ent L w) => rOrder_any (p := q) (q := xp) hq hxl h)
      simp only [sdV] at HA HB
      simp only [sdC] at hEq
      have Hsn := SL.hid (split_none (p := xp))
      obtain ⟨lp, hlp⟩ : ∃ lp, splitL xp = lp := ⟨_, rfl⟩
      obtain ⟨er, her⟩ : ∃ er, splitE xp = er := ⟨_, rfl⟩
      rw [hlp] at HS hg Hsn
      rw [her] at HS hg Hsn
      clear hlp her hxl
      generalize ((⟨qt, qd, qb⟩ : Sd) == ⟨ut, ud, ub⟩) = eq at *
      generalize maySd ⟨qt, qd, qb⟩ = m1 at *
      generalize maySd ⟨ut, ud, ub⟩ = m2 at *
      generalize goodC ⟨xp, ⟨qt, qd, qb⟩, ⟨ut, ud, ub⟩⟩ = g at *
      have Hg := SL.hid hg
      clear hg
      have f0' := (f0.out _ hE).2.1
      go_wp2_with (first
        | go_skip
        | (go_at_call 50; clear f0'; refine (HS.out _ _ hE).mono ?_; clear hE; rintro e w2 ⟨v, h1, a1, c1, h2, hE⟩; cases h1; cases h2))
      cases hne : (er != 0)
      case' true =>
        have Hb := SL.hid (show g = false by rw [Hg.out]; have he : (er == 0) = false := by simpa using hne
                                             rw [he, Bool.false_and])
        have hO := hE.drew
        refine wp_region_held_drew (S := (fun w' => ((Instr.loadAt 9 (.pointer (some ⟨b, off + k * 7, none⟩))).run Tryd.prog w' = .ok (.string ⟨xp.toArray⟩) w') ∧ ((Instr.loadAt 49 (.pointer (some ⟨b, off + k * 7 + 1, none⟩))).run Tryd.prog w' = .ok (.agg #[.bool qt, .bool qd, .string ⟨qb.toArray⟩]) w') ∧ ((Instr.loadAt 49 (.pointer (some ⟨b, off + k * 7 + 4, none⟩))).run Tryd.prog w' = .ok (.agg #[.bool ut, .bool ud, .string ⟨ub.toArray⟩]) w'))) (by kernel_rfl) ⟨(f0.out _ (hO.suf sfx)).2.1, (f0.out _ (hO.suf sfx)).2.2.1, (f0.out _ (hO.suf sfx)).2.2.2⟩ (fun hS => ?_)
        refine tV 0 ⟨some 21, .move (.tmp 5), _, _, _, none⟩ hS ?_
        refine tV 1 ⟨some 22, .binOp .neq 31 (.tmp 21) (.const (.int .i64 0)) 31, _, _, _, none⟩ hS ?_
        refine tV 2 ⟨some 23, .move (.tmp 22), _, _, _, none⟩ hS ?_
        refine tU 3 ⟨some 24, .move (.tmp 0), _, _, _, some (2, false)⟩ hS ?_
        refine tU 4 ⟨some 25, .move (.tmp 3), _, _, _, some (2, false)⟩ hS ?_
        refine tU 5 ⟨some 26, .indexAddr 23 (.tmp 24) (.tmp 25), _, _, _, some (2, false)⟩ hS ?_
        refine tU 6 ⟨some 27, .fieldAddr 51 (.tmp 26) 0, _, _, _, some (2, false)⟩ hS ?_
        refine tU 7 ⟨some 28, .load 9 (.tmp 27), _, _, _, some (2, false)⟩ hS ?_
        refine tU 8 ⟨some 29, .binOp .eql 9 (.tmp 28) (.const (.string { data := #[] })) 9, _, _, _, some (2, false)⟩ hS ?_
        refine tV 9 ⟨some 30, .pick (.tmp 23) (.const (.bool true)) (.tmp 29), _, _, _, none⟩ hS ?_
        refine tV 10 ⟨some 31, .move (.tmp 30), _, _, _, none⟩ hS ?_
        refine tU 11 ⟨some 32, .move (.tmp 0), _, _, _, some (10, false)⟩ hS ?_
        refine tU 12 ⟨some 33, .move (.tmp 3), _, _, _, some (10, false)⟩ hS ?_
        refine tU 13 ⟨some 34, .indexAddr 23 (.tmp 32) (.tmp 33), _, _, _, some (10, false)⟩ hS ?_
        refine tU 14 ⟨some 35, .fieldAddr 51 (.tmp 34) 1, _, _, _, some (10, false)⟩ hS ?_
        refine tU 15 ⟨some 36, .load 49 (.tmp 35), _, _, _, some (10, false)⟩ hS ?_
        refine tU 16 ⟨some 37, .move (.tmp 0), _, _, _, some (10, false)⟩ hS ?_
        refine tU 17 ⟨some 38, .move (.tmp 3), _, _, _, some (10, false)⟩ hS ?_
        refine tU 18 ⟨some 39, .indexAddr 23 (.tmp 37) (.tmp 38), _, _, _, some (10, false)⟩ hS ?_
        refine tU 19 ⟨some 40, .fieldAddr 51 (.tmp 39) 2, _, _, _, some (10, false)⟩ hS ?_
        refine tU 20 ⟨some 41, .load 49 (.tmp 40), _, _, _, some (10, false)⟩ hS ?_
        refine tU 21 ⟨some 42, .binOp .eql 49 (.tmp 36) (.tmp 41) 49, _, _, _, some (10, false)⟩ hS ?_
        refine tV 22 ⟨some 43, .pick (.tmp 31) (.const (.bool true)) (.tmp 42), _, _, _, none⟩ hS ?_
        refine tV 23 ⟨some 44, .move (.tmp 43), _, _, _, none⟩ hS ?_
        refine tU 24 ⟨some 45, .move (.tmp 0), _, _, _, some (23, false)⟩ hS ?_
        refine tU 25 ⟨some 46, .move (.tmp 3), _, _, _, some (23, false)⟩ hS ?_
        refine tU 26 ⟨some 47, .indexAddr 23 (.tmp 45) (.tmp 46), _, _, _, some (23, false)⟩ hS ?_
        refine tU 27 ⟨some 48, .fieldAddr 51 (.tmp 47) 1, _, _, _, some (23, false)⟩ hS ?_
        refine tU 28 ⟨some 49, .load 49 (.tmp 48), _, _, _, some (23, false)⟩ hS ?_
        refine tU 29 ⟨some 50, .call { callee := .value (.func 51), args := #[.tmp 49], argTypes := #[49] }, _, _, _, some (23, false)⟩ hS ?_
        refine tU 30 ⟨some 51, .unOp Go.UnOp.not 4 (.tmp 50), _, _, _, some (23, false)⟩ hS ?_
        refine tV 31 ⟨some 52, .pick (.tmp 44) (.const (.bool true)) (.tmp 51), _, _, _, none⟩ hS ?_
        refine tV 32 ⟨some 53, .move (.tmp 52), _, _, _, none⟩ hS ?_
        refine tU 33 ⟨some 54, .move (.tmp 0), _, _, _, some (32, false)⟩ hS ?_
        refine tU 34 ⟨some 55, .move (.tmp 3), _, _, _, some (32, false)⟩ hS ?_
        refine tU 35 ⟨some 56, .indexAddr 23 (.tmp 54) (.tmp 55), _, _, _, some (32, false)⟩ hS ?_
        refine tU 36 ⟨some 57, .fieldAddr 51 (.tmp 56) 2, _, _, _, some (32, false)⟩ hS ?_
        refine tU 37 ⟨some 58, .load 49 (.tmp 57), _, _, _, some (32, false)⟩ hS ?_
        refine tU 38 ⟨some 59, .call { callee := .value (.func 51), args := #[.tmp 58], argTypes := #[49] }, _, _, _, some (32, false)⟩ hS ?_
        refine tU 39 ⟨some 60, .unOp Go.UnOp.not 4 (.tmp 59), _, _, _, some (32, false)⟩ hS ?_
        refine tV 40 ⟨some 61, .pick (.tmp 53) (.const (.bool true)) (.tmp 60), _, _, _, none⟩ hS ?_
        refine wpAnyH_done (by kernel_rfl) ?_ _
        all_goals
          clear hS hE
          have hE := hO.tail
          clear hO
          go_wp2
          refine bodyPost_ret (results_tmp rfl _ _ _) rfl ?_
          exact ⟨_, rfl, .mk false hE (iff_of_false (by decide) (fun h => by have := (Hst.out.2 h).1; rw [Hb.out] at this; cases this))⟩
      obtain rfl : er = 0 := by simpa using hne
      clear hne
      have hle := Hsn.out rfl
      rw [hle] at Hg
      clear hle
      cases hpe : (xp == [])
      case' true =>
        have Hb := SL.hid (show g = false by rw [Hg.out, hpe]; simp)
        have hO := hE.drew
        refine wp_region_held_drew (S := (fun w' => ((Instr.loadAt 9 (.pointer (some ⟨b, off + k * 7, none⟩))).run Tryd.prog w' = .ok (.string ⟨xp.toArray⟩) w') ∧ ((Instr.loadAt 49 (.pointer (some ⟨b, off + k * 7 + 1, none⟩))).run Tryd.prog w' = .ok (.agg #[.bool qt, .bool qd, .string ⟨qb.toArray⟩]) w') ∧ ((Instr.loadAt 49 (.pointer (some ⟨b, off + k * 7 + 4, none⟩))).run Tryd.prog w' = .ok (.agg #[.bool ut, .bool ud, .string ⟨ub.toArray⟩]) w'))) (by kernel_rfl) ⟨(f0.out _ (hO.suf sfx)).2.1, (f0.out _ (hO.suf sfx)).2.2.1, (f0.out _ (hO.suf sfx)).2.2.2⟩ (fun hS => ?_)
        refine tV 0 ⟨some 21, .move (.tmp 5), _, _, _, none⟩ hS ?_
        refine tV 1 ⟨some 22, .binOp .neq 31 (.tmp 21) (.const (.int .i64 0)) 31, _, _, _, none⟩ hS ?_
        refine tV 2 ⟨some 23, .move (.tmp 22), _, _, _, none⟩ hS ?_
        refine tV 3 ⟨some 24, .move (.tmp 0), _, _, _, some (2, false)⟩ hS ?_
        refine tV 4 ⟨some 25, .move (.tmp 3), _, _, _, some (2, false)⟩ hS ?_
        refine tV 5 ⟨some 26, .indexAddr 23 (.tmp 24) (.tmp 25), _, _, _, some (2, false)⟩ hS ?_
        refine tV 6 ⟨some 27, .fieldAddr 51 (.tmp 26) 0, _, _, _, some (2, false)⟩ hS ?_
        refine tL 7 ⟨some 28, .load 9 (.tmp 27), _, _, _, some (2, false)⟩ hS ?_
        refine tV 8 ⟨some 29, .binOp .eql 9 (.tmp 28) (.const (.string { data := #[] })) 9, _, _, _, some (2, false)⟩ hS ?_
        refine tV 9 ⟨some 30, .pick (.tmp 23) (.const (.bool true)) (.tmp 29), _, _, _, none⟩ hS ?_
        refine tV 10 ⟨some 31, .move (.tmp 30), _, _, _, none⟩ hS ?_
        refine tU 11 ⟨some 32, .move (.tmp 0), _, _, _, some (10, false)⟩ hS ?_
        refine tU 12 ⟨some 33, .move (.tmp 3), _, _, _, some (10, false)⟩ hS ?_
        refine tU 13 ⟨some 34, .indexAddr 23 (.tmp 32) (.tmp 33), _, _, _, some (10, false)⟩ hS ?_
        refine tU 14 ⟨some 35, .fieldAddr 51 (.tmp 34) 1, _, _, _, some (10, false)⟩ hS ?_
        refine tU 15 ⟨some 36, .load 49 (.tmp 35), _, _, _, some (10, false)⟩ hS ?_
        refine tU 16 ⟨some 37, .move (.tmp 0), _, _, _, some (10, false)⟩ hS ?_
        refine tU 17 ⟨some 38, .move (.tmp 3), _, _, _, some (10, false)⟩ hS ?_
        refine tU 18 ⟨some 39, .indexAddr 23 (.tmp 37) (.tmp 38), _, _, _, some (10, false)⟩ hS ?_
        refine tU 19 ⟨some 40, .fieldAddr 51 (.tmp 39) 2, _, _, _, some (10, false)⟩ hS ?_
        refine tU 20 ⟨some 41, .load 49 (.tmp 40), _, _, _, some (10, false)⟩ hS ?_
        refine tU 21 ⟨some 42, .binOp .eql 49 (.tmp 36) (.tmp 41) 49, _, _, _, some (10, false)⟩ hS ?_
        refine tV 22 ⟨some 43, .pick (.tmp 31) (.const (.bool true)) (.tmp 42), _, _, _, none⟩ hS ?_
        refine tV 23 ⟨some 44, .move (.tmp 43), _, _, _, none⟩ hS ?_
        refine tU 24 ⟨some 45, .move (.tmp 0), _, _, _, some (23, false)⟩ hS ?_
        refine tU 25 ⟨some 46, .move (.tmp 3), _, _, _, some (23, false)⟩ hS ?_
        refine tU 26 ⟨some 47, .indexAddr 23 (.tmp 45) (.tmp 46), _, _, _, some (23, false)⟩ hS ?_
        refine tU 27 ⟨some 48, .fieldAddr 51 (.tmp 47) 1, _, _, _, some (23, false)⟩ hS ?_
        refine tU 28 ⟨some 49, .load 49 (.tmp 48), _, _, _, some (23, false)⟩ hS ?_
        refine tU 29 ⟨some 50, .call { callee := .value (.func 51), args := #[.tmp 49], argTypes := #[49] }, _, _, _, some (23, false)⟩ hS ?_
        refine tU 30 ⟨some 51, .unOp Go.UnOp.not 4 (.tmp 50), _, _, _, some (23, false)⟩ hS ?_
        refine tV 31 ⟨some 52, .pick (.tmp 44) (.const (.bool true)) (.tmp 51), _, _, _, none⟩ hS ?_
        refine tV 32 ⟨some 53, .move (.tmp 52), _, _, _, none⟩ hS ?_
        refine tU 33 ⟨some 54, .move (.tmp 0), _, _, _, some (32, false)⟩ hS ?_
        refine tU 34 ⟨some 55, .move (.tmp 3), _, _, _, some (32, false)⟩ hS ?_
        refine tU 35 ⟨some 56, .indexAddr 23 (.tmp 54) (.tmp 55), _, _, _, some (32, false)⟩ hS ?_
        refine tU 36 ⟨some 57, .fieldAddr 51 (.tmp 56) 2, _, _, _, some (32, false)⟩ hS ?_
        refine tU 37 ⟨some 58, .load 49 (.tmp 57), _, _, _, some (32, false)⟩ hS ?_
        refine tU 38 ⟨some 59, .call { callee := .value (.func 51), args := #[.tmp 58], argTypes := #[49] }, _, _, _, some (32, false)⟩ hS ?_
        refine tU 39 ⟨some 60, .unOp Go.UnOp.not 4 (.tmp 59), _, _, _, some (32, false)⟩ hS ?_
        refine tV 40 ⟨some 61, .pick (.tmp 53) (.const (.bool true)) (.tmp 60), _, _, _, none⟩ hS ?_
        refine wpAnyH_done (by kernel_rfl) ?_ _
        all_goals
          clear hS hE
          have hE := hO.tail
          clear hO
          go_wp2
          refine bodyPost_ret (results_tmp rfl _ _ _) rfl ?_
          exact ⟨_, rfl, .mk false hE (iff_of_false (by decide) (fun h => by have := (Hst.out.2 h).1; rw [Hb.out] at this; cases this))⟩
      rw [hpe] at Hg
      cases eq
      case' true =>
        have Hb := SL.hid (show g = false by rw [Hg.out]; simp)
        have hO := hE.drew
        refine wp_region_held_drew (S := (fun w' => ((Instr.loadAt 9 (.pointer (some ⟨b, off + k * 7, none⟩))).run Tryd.prog w' = .ok (.string ⟨xp.toArray⟩) w') ∧ ((Instr.loadAt 49 (.pointer (some ⟨b, off + k * 7 + 1, none⟩))).run Tryd.prog w' = .ok (.agg #[.bool qt, .bool qd, .string ⟨qb.toArray⟩]) w') ∧ ((Instr.loadAt 49 (.pointer (some ⟨b, off + k * 7 + 4, none⟩))).run Tryd.prog w' = .ok (.agg #[.bool ut, .bool ud, .string ⟨ub.toArray⟩]) w'))) (by kernel_rfl) ⟨(f0.out _ (hO.suf sfx)).2.1, (f0.out _ (hO.suf sfx)).2.2.1, (f0.out _ (hO.suf sfx)).2.2.2⟩ (fun hS => ?_)
        refine tV 0 ⟨some 21, .move (.tmp 5), _, _, _, none⟩ hS ?_
        refine tV 1 ⟨some 22, .binOp .neq 31 (.tmp 21) (.const (.int .i64 0)) 31, _, _, _, none⟩ hS ?_
        refine tV 2 ⟨some 23, .move (.tmp 22), _, _, _, none⟩ hS ?_
        refine tV 3 ⟨some 24, .move (.tmp 0), _, _, _, some (2, false)⟩ hS ?_
        refine tV 4 ⟨some 25, .move (.tmp 3), _, _, _, some (2, false)⟩ hS ?_
        refine tV 5 ⟨some 26, .indexAddr 23 (.tmp 24) (.tmp 25), _, _, _, some (2, false)⟩ hS ?_
        refine tV 6 ⟨some 27, .fieldAddr 51 (.tmp 26) 0, _, _, _, some (2, false)⟩ hS ?_
        refine tL 7 ⟨some 28, .load 9 (.tmp 27), _, _, _, some (2, false)⟩ hS ?_
        refine tV 8 ⟨some 29, .binOp .eql 9 (.tmp 28) (.const (.string { data := #[] })) 9, _, _, _, some (2, false)⟩ hS ?_
        refine tV 9 ⟨some 30, .pick (.tmp 23) (.const (.bool true)) (.tmp 29), _, _, _, none⟩ hS ?_
        refine tV 10 ⟨some 31, .move (.tmp 30), _, _, _, none⟩ hS ?_
        refine tV 11 ⟨some 32, .move (.tmp 0), _, _, _, some (10, false)⟩ hS ?_
        refine tV 12 ⟨some 33, .move (.tmp 3), _, _, _, some (10, false)⟩ hS ?_
        refine tV 13 ⟨some 34, .indexAddr 23 (.tmp 32) (.tmp 33), _, _, _, some (10, false)⟩ hS ?_
        refine tV 14 ⟨some 35, .fieldAddr 51 (.tmp 34) 1, _, _, _, some (10, false)⟩ hS ?_
        refine tL 15 ⟨some 36, .load 49 (.tmp 35), _, _, _, some (10, false)⟩ hS ?_
        refine tV 16 ⟨some 37, .move (.tmp 0), _, _, _, some (10, false)⟩ hS ?_
        refine tV 17 ⟨some 38, .move (.tmp 3), _, _, _, some (10, false)⟩ hS ?_
        refine tV 18 ⟨some 39, .indexAddr 23 (.tmp 37) (.tmp 38), _, _, _, some (10, false)⟩ hS ?_
        refine tV 19 ⟨some 40, .fieldAddr 51 (.tmp 39) 2, _, _, _, some (10, false)⟩ hS ?_
        refine tL 20 ⟨some 41, .load 49 (.tmp 40), _, _, _, some (10, false)⟩ hS ?_
        refine tV 21 ⟨some 42, .binOp .eql 49 (.tmp 36) (.tmp 41) 49, _, _, _, some (10, false)⟩ hS ?_
        refine tV 22 ⟨some 43, .pick (.tmp 31) (.const (.bool true)) (.tmp 42), _, _, _, none⟩ hS ?_
        refine tV 23 ⟨some 44, .move (.tmp 43), _, _, _, none⟩ hS ?_
        refine tU 24 ⟨some 45, .move (.tmp 0), _, _, _, some (23, false)⟩ hS ?_
        refine tU 25 ⟨some 46, .move (.tmp 3), _, _, _, some (23, false)⟩ hS ?_
        refine tU 26 ⟨some 47, .indexAddr 23 (.tmp 45) (.tmp 46), _, _, _, some (23, false)⟩ hS ?_
        refine tU 27 ⟨some 48, .fieldAddr 51 (.tmp 47) 1, _, _, _, some (23, false)⟩ hS ?_
        refine tU 28 ⟨some 49, .load 49 (.tmp 48), _, _, _, some (23, false)⟩ hS ?_
        refine tU 29 ⟨some 50, .call { callee := .value (.func 51), args := #[.tmp 49], argTypes := #[49] }, _, _, _, some (23, false)⟩ hS ?_
        refine tU 30 ⟨some 51, .unOp Go.UnOp.not 4 (.tmp 50), _, _, _, some (23, false)⟩ hS ?_
        refine tV 31 ⟨some 52, .pick (.tmp 44) (.const (.bool true)) (.tmp 51), _, _, _, none⟩ hS ?_
        refine tV 32 ⟨some 53, .move (.tmp 52), _, _, _, none⟩ hS ?_
        refine tU 33 ⟨some 54, .move (.tmp 0), _, _, _, some (32, false)⟩ hS ?_
        refine tU 34 ⟨some 55, .move (.tmp 3), _, _, _, some (32, false)⟩ hS ?_
        refine tU 35 ⟨some 56, .indexAddr 23 (.tmp 54) (.tmp 55), _, _, _, some (32, false)⟩ hS ?_
        refine tU 36 ⟨some 57, .fieldAddr 51 (.tmp 56) 2, _, _, _, some (32, false)⟩ hS ?_
        refine tU 37 ⟨some 58, .load 49 (.tmp 57), _, _, _, some (32, false)⟩ hS ?_
        refine tU 38 ⟨some 59, .call { callee := .value (.func 51), args := #[.tmp 58], argTypes := #[49] }, _, _, _, some (32, false)⟩ hS ?_
        refine tU 39 ⟨some 60, .unOp Go.UnOp.not 4 (.tmp 59), _, _, _, some (32, false)⟩ hS ?_
        refine tV 40 ⟨some 61, .pick (.tmp 53) (.const (.bool true)) (.tmp 60), _, _, _, none⟩ hS ?_
        refine wpAnyH_done (by kernel_rfl) ?_ _
        all_goals
          clear hS hE
          have hE := hO.tail
          clear hO
          go_wp2
          refine bodyPost_ret (results_tmp rfl _ _ _) rfl ?_
          exact ⟨_, rfl, .mk false hE (iff_of_false (by decide) (fun h => by have := (Hst.out.2 h).1; rw [Hb.out] at this; cases this))⟩
      cases m1
      case' false =>
        have Hb := SL.hid (show g = false by rw [Hg.out]; simp)
        have hO := hE.drew
        refine wp_region_held_drew (S := (fun w' => ((Instr.loadAt 9 (.pointer (some ⟨b, off + k * 7, none⟩))).run Tryd.prog w' = .ok (.string ⟨xp.toArray⟩) w') ∧ ((Instr.loadAt 49 (.pointer (some ⟨b, off + k * 7 + 1, none⟩))).run Tryd.prog w' = .ok (.agg #[.bool qt, .bool qd, .string ⟨qb.toArray⟩]) w') ∧ ((Instr.loadAt 49 (.pointer (some ⟨b, off + k * 7 + 4, none⟩))).run Tryd.prog w' = .ok (.agg #[.bool ut, .bool ud, .string ⟨ub.toArray⟩]) w'))) (by kernel_rfl) ⟨(f0.out _ (hO.suf sfx)).2.1, (f0.out _ (hO.suf sfx)).2.2.1, (f0.out _ (hO.suf sfx)).2.2.2⟩ (fun hS => ?_)
        refine tV 0 ⟨some 21, .move (.tmp 5), _, _, _, none⟩ hS ?_
        refine tV 1 ⟨some 22, .binOp .neq 31 (.tmp 21) (.const (.int .i64 0)) 31, _, _, _, none⟩ hS ?_
        refine tV 2 ⟨some 23, .move (.tmp 22), _, _, _, none⟩ hS ?_
        refine tV 3 ⟨some 24, .move (.tmp 0), _, _, _, some (2, false)⟩ hS ?_
        refine tV 4 ⟨some 25, .move (.tmp 3), _, _, _, some (2, false)⟩ hS ?_
        refine tV 5 ⟨some 26, .indexAddr 23 (.tmp 24) (.tmp 25), _, _, _, some (2, false)⟩ hS ?_
        refine tV 6 ⟨some 27, .fieldAddr 51 (.tmp 26) 0, _, _, _, some (2, false)⟩ hS ?_
        refine tL 7 ⟨some 28, .load 9 (.tmp 27), _, _, _, some (2, false)⟩ hS ?_
        refine tV 8 ⟨some 29, .binOp .eql 9 (.tmp 28) (.const (.string { data := #[] })) 9, _, _, _, some (2, false)⟩ hS ?_
        refine tV 9 ⟨some 30, .pick (.tmp 23) (.const (.bool true)) (.tmp 29), _, _, _, none⟩ hS ?_
        refine tV 10 ⟨some 31, .move (.tmp 30), _, _, _, none⟩ hS ?_
        refine tV 11 ⟨some 32, .move (.tmp 0), _, _, _, some (10, false)⟩ hS ?_
        refine tV 12 ⟨some 33, .move (.tmp 3), _, _, _, some (10, false)⟩ hS ?_
        refine tV 13 ⟨some 34, .indexAddr 23 (.tmp 32) (.tmp 33), _, _, _, some (10, false)⟩ hS ?_
        refine tV 14 ⟨some 35, .fieldAddr 51 (.tmp 34) 1, _, _, _, some (10, false)⟩ hS ?_
        refine tL 15 ⟨some 36, .load 49 (.tmp 35), _, _, _, some (10, false)⟩ hS ?_
        refine tV 16 ⟨some 37, .move (.tmp 0), _, _, _, some (10, false)⟩ hS ?_
        refine tV 17 ⟨some 38, .move (.tmp 3), _, _, _, some (10, false)⟩ hS ?_
        refine tV 18 ⟨some 39, .indexAddr 23 (.tmp 37) (.tmp 38), _, _, _, some (10, false)⟩ hS ?_
        refine tV 19 ⟨some 40, .fieldAddr 51 (.tmp 39) 2, _, _, _, some (10, false)⟩ hS ?_
        refine tL 20 ⟨some 41, .load 49 (.tmp 40), _, _, _, some (10, false)⟩ hS ?_
        refine tV 21 ⟨some 42, .binOp .eql 49 (.tmp 36) (.tmp 41) 49, _, _, _, some (10, false)⟩ hS ?_
        refine tV 22 ⟨some 43, .pick (.tmp 31) (.const (.bool true)) (.tmp 42), _, _, _, none⟩ hS ?_
        refine tV 23 ⟨some 44, .move (.tmp 43), _, _, _, none⟩ hS ?_
        refine tV 24 ⟨some 45, .move (.tmp 0), _, _, _, some (23, false)⟩ hS ?_
        refine tV 25 ⟨some 46, .move (.tmp 3), _, _, _, some (23, false)⟩ hS ?_
        refine tV 26 ⟨some 47, .indexAddr 23 (.tmp 45) (.tmp 46), _, _, _, some (23, false)⟩ hS ?_
        refine tV 27 ⟨some 48, .fieldAddr 51 (.tmp 47) 1, _, _, _, some (23, false)⟩ hS ?_
        refine tL 28 ⟨some 49, .load 49 (.tmp 48), _, _, _, some (23, false)⟩ hS ?_
        refine wpAnyH_ready (rs := [29]) (by kernel_rfl) (by simp) ?_
        refine (AllReadyH.cons (o := ⟨some 50, .call { callee := .value (.func 51), args := #[.tmp 49], argTypes := #[49] }, _, _, _, some (23, false)⟩) rfl (fun K hK => ?_) AllReadyH.nil)
        (go_simp; refine (HA.out _ _ hO).mono ?_; clear hO; rintro e w5 ⟨v, h1, h2, hO⟩; cases h1; cases h2)
        refine hK.out _ _ ⟨(f0.out _ (hO.suf sfx)).2.1, (f0.out _ (hO.suf sfx)).2.2.1, (f0.out _ (hO.suf sfx)).2.2.2⟩ (fun hS => ?_)
        clear hK K
        try simp only [Act.put, sb, s0, sz]
        refine tV 30 ⟨some 51, .unOp Go.UnOp.not 4 (.tmp 50), _, _, _, some (23, false)⟩ hS ?_
        refine tV 31 ⟨some 52, .pick (.tmp 44) (.const (.bool true)) (.tmp 51), _, _, _, none⟩ hS ?_
        refine tV 32 ⟨some 53, .move (.tmp 52), _, _, _, none⟩ hS ?_
        refine tU 33 ⟨some 54, .move (.tmp 0), _, _, _, some (32, false)⟩ hS ?_
        refine tU 34 ⟨some 55, .move (.tmp 3), _, _, _, some (32, false)⟩ hS ?_
        refine tU 35 ⟨some 56, .indexAddr 23 (.tmp 54) (.tmp 55), _, _, _, some (32, false)⟩ hS ?_
        refine tU 36 ⟨some 57, .fieldAddr 51 (.tmp 56) 2, _, _, _, some (32, false)⟩ hS ?_
        refine tU 37 ⟨some 58, .load 49 (.tmp 57), _, _, _, some (32, false)⟩ hS ?_
        refine tU 38 ⟨some 59, .call { callee := .value (.func 51), args := #[.tmp 58], argTypes := #[49] }, _, _, _, some (32, false)⟩ hS ?_
        refine tU 39 ⟨some 60, .unOp Go.UnOp.not 4 (.tmp 59), _, _, _, some (32, false)⟩ hS ?_
        refine tV 40 ⟨some 61, .pick (.tmp 53) (.const (.bool true)) (.tmp 60), _, _, _, none⟩ hS ?_
        refine wpAnyH_done (by kernel_rfl) ?_ _
        all_goals
          clear hS hE
          have hE := hO.tail
          clear hO
          go_wp2
          refine bodyPost_ret (results_tmp rfl _ _ _) rfl ?_
          exact ⟨_, rfl, .mk false hE (iff_of_false (by decide) (fun h => by have := (Hst.out.2 h).1; rw [Hb.out] at this; cases this))⟩
      cases m2
      case' false =>
        have Hb := SL.hid (show g = false by rw [Hg.out]; simp)
        have hO := hE.drew
        refine wp_region_held_drew (S := (fun w' => ((Instr.loadAt 9 (.pointer (some ⟨b, off + k * 7, none⟩))).run Tryd.prog w' = .ok (.string ⟨xp.toArray⟩) w') ∧ ((Instr.loadAt 49 (.pointer (some ⟨b, off + k * 7 + 1, none⟩))).run Tryd.prog w' = .ok (.agg #[.bool qt, .bool qd, .string ⟨qb.toArray⟩]) w') ∧ ((Instr.loadAt 49 (.pointer (some ⟨b, off + k * 7 + 4, none⟩))).run Tryd.prog w' = .ok (.agg #[.bool ut, .bool ud, .string ⟨ub.toArray⟩]) w'))) (by kernel_rfl) ⟨(f0.out _ (hO.suf sfx)).2.1, (f0.out _ (hO.suf sfx)).2.2.1, (f0.out _ (hO.suf sfx)).2.2.2⟩ (fun hS => ?_)
        refine tV 0 ⟨some 21, .move (.tmp 5), _, _, _, none⟩ hS ?_
        refine tV 1 ⟨some 22, .binOp .neq 31 (.tmp 21) (.const (.int .i64 0)) 31, _, _, _, none⟩ hS ?_
        refine tV 2 ⟨some 23, .move (.tmp 22), _, _, _, none⟩ hS ?_
        refine tV 3 ⟨some 24, .move (.tmp 0), _, _, _, some (2, false)⟩ hS ?_
        refine tV 4 ⟨some 25, .move (.tmp 3), _, _, _, some (2, false)⟩ hS ?_
        refine tV 5 ⟨some 26, .indexAddr 23 (.tmp 24) (.tmp 25), _, _, _, some (2, false)⟩ hS ?_
        refine tV 6 ⟨some 27, .fieldAddr 51 (.tmp 26) 0, _, _, _, some (2, false)⟩ hS ?_
        refine tL 7 ⟨some 28, .load 9 (.tmp 27), _, _, _, some (2, false)⟩ hS ?_
        refine tV 8 ⟨some 29, .binOp .eql 9 (.tmp 28) (.const (.string { data := #[] })) 9, _, _, _, some (2, false)⟩ hS ?_
        refine tV 9 ⟨some 30, .pick (.tmp 23) (.const (.bool true)) (.tmp 29), _, _, _, none⟩ hS ?_
        refine tV 10 ⟨some 31, .move (.tmp 30), _, _, _, none⟩ hS ?_
        refine tV 11 ⟨some 32, .move (.tmp 0), _, _, _, some (10, false)⟩ hS ?_
        refine tV 12 ⟨some 33, .move (.tmp 3), _, _, _, some (10, false)⟩ hS ?_
        refine tV 13 ⟨some 34, .indexAddr 23 (.tmp 32) (.tmp 33), _, _, _, some (10, false)⟩ hS ?_
        refine tV 14 ⟨some 35, .fieldAddr 51 (.tmp 34) 1, _, _, _, some (10, false)⟩ hS ?_
        refine tL 15 ⟨some 36, .load 49 (.tmp 35), _, _, _, some (10, false)⟩ hS ?_
        refine tV 16 ⟨some 37, .move (.tmp 0), _, _, _, some (10, false)⟩ hS ?_
        refine tV 17 ⟨some 38, .move (.tmp 3), _, _, _, some (10, false)⟩ hS ?_
        refine tV 18 ⟨some 39, .indexAddr 23 (.tmp 37) (.tmp 38), _, _, _, some (10, false)⟩ hS ?_
        refine tV 19 ⟨some 40, .fieldAddr 51 (.tmp 39) 2, _, _, _, some (10, false)⟩ hS ?_
        refine tL 20 ⟨some 41, .load 49 (.tmp 40), _, _, _, some (10, false)⟩ hS ?_
        refine tV 21 ⟨some 42, .binOp .eql 49 (.tmp 36) (.tmp 41) 49, _, _, _, some (10, false)⟩ hS ?_
        refine tV 22 ⟨some 43, .pick (.tmp 31) (.const (.bool true)) (.tmp 42), _, _, _, none⟩ hS ?_
        refine tV 23 ⟨some 44, .move (.tmp 43), _, _, _, none⟩ hS ?_
        refine tV 24 ⟨some 45, .move (.tmp 0), _, _, _, some (23, false)⟩ hS ?_
        refine tV 25 ⟨some 46, .move (.tmp 3), _, _, _, some (23, false)⟩ hS ?_
        refine tV 26 ⟨some 47, .indexAddr 23 (.tmp 45) (.tmp 46), _, _, _, some (23, false)⟩ hS ?_
        refine tV 27 ⟨some 48, .fieldAddr 51 (.tmp 47) 1, _, _, _, some (23, false)⟩ hS ?_
        refine tL 28 ⟨some 49, .load 49 (.tmp 48), _, _, _, some (23, false)⟩ hS ?_
        refine wpAnyH_ready (rs := [29]) (by kernel_rfl) (by simp) ?_
        refine (AllReadyH.cons (o := ⟨some 50, .call { callee := .value (.func 51), args := #[.tmp 49], argTypes := #[49] }, _, _, _, some (23, false)⟩) rfl (fun K hK => ?_) AllReadyH.nil)
        (go_simp; refine (HA.out _ _ hO).mono ?_; clear hO; rintro e w5 ⟨v, h1, h2, hO⟩; cases h1; cases h2)
        refine hK.out _ _ ⟨(f0.out _ (hO.suf sfx)).2.1, (f0.out _ (hO.suf sfx)).2.2.1, (f0.out _ (hO.suf sfx)).2.2.2⟩ (fun hS => ?_)
        clear hK K
        try simp only [Act.put, sb, s0, sz]
        refine tV 30 ⟨some 51, .unOp Go.UnOp.not 4 (.tmp 50), _, _, _, some (23, false)⟩ hS ?_
        refine tV 31 ⟨some 52, .pick (.tmp 44) (.const (.bool true)) (.tmp 51), _, _, _, none⟩ hS ?_
        refine tV 32 ⟨some 53, .move (.tmp 52), _, _, _, none⟩ hS ?_
        refine tV 33 ⟨some 54, .move (.tmp 0), _, _, _, some (32, false)⟩ hS ?_
        refine tV 34 ⟨some 55, .move (.tmp 3), _, _, _, some (32, false)⟩ hS ?_
        refine tV 35 ⟨some 56, .indexAddr 23 (.tmp 54) (.tmp 55), _, _, _, some (32, false)⟩ hS ?_
        refine tV 36 ⟨some 57, .fieldAddr 51 (.tmp 56) 2, _, _, _, some (32, false)⟩ hS ?_
        refine tL 37 ⟨some 58, .load 49 (.tmp 57), _, _, _, some (32, false)⟩ hS ?_
        refine wpAnyH_ready (rs := [38]) (by kernel_rfl) (by simp) ?_
        refine (AllReadyH.cons (o := ⟨some 59, .call { callee := .value (.func 51), args := #[.tmp 58], argTypes := #[49] }, _, _, _, some (32, false)⟩) rfl (fun K hK => ?_) AllReadyH.nil)
        (go_simp; refine (HB.out _ _ hO).mono ?_; clear hO; rintro e w5 ⟨v, h1, h2, hO⟩; cases h1; cases h2)
        refine hK.out _ _ ⟨(f0.out _ (hO.suf sfx)).2.1, (f0.out _ (hO.suf sfx)).2.2.1, (f0.out _ (hO.suf sfx)).2.2.2⟩ (fun hS => ?_)
        clear hK K
        try simp only [Act.put, sb, s0, sz]
        refine tV 39 ⟨some 60, .unOp Go.UnOp.not 4 (.tmp 59), _, _, _, some (32, false)⟩ hS ?_
        refine tV 40 ⟨some 61, .pick (.tmp 53) (.const (.bool true)) (.tmp 60), _, _, _, none⟩ hS ?_
        refine wpAnyH_done (by kernel_rfl) ?_ _
        all_goals
          clear hS hE
          have hE := hO.tail
          clear hO
          go_wp2
          refine bodyPost_ret (results_tmp rfl _ _ _) rfl ?_
          exact ⟨_, rfl, .mk false hE (iff_of_false (by decide) (fun h => by have := (Hst.out.2 h).1; rw [Hb.out] at this; cases this))⟩
      have Hb := SL.hid (show g = true by rw [Hg.out]; simp)
      clear Hg
      have hO := hE.drew
      refine wp_region_held_drew (S := (fun w' => ((Instr.loadAt 9 (.pointer (some ⟨b, off + k * 7, none⟩))).run Tryd.prog w' = .ok (.string ⟨xp.toArray⟩) w') ∧ ((Instr.loadAt 49 (.pointer (some ⟨b, off + k * 7 + 1, none⟩))).run Tryd.prog w' = .ok (.agg #[.bool qt, .bool qd, .string ⟨qb.toArray⟩]) w') ∧ ((Instr.loadAt 49 (.pointer (some ⟨b, off + k * 7 + 4, none⟩))).run Tryd.prog w' = .ok (.agg #[.bool ut, .bool ud, .string ⟨ub.toArray⟩]) w'))) (by kernel_rfl) ⟨(f0.out _ (hO.suf sfx)).2.1, (f0.out _ (hO.suf sfx)).2.2.1, (f0.out _ (hO.suf sfx)).2.2.2⟩ (fun hS => ?_)
      refine tV 0 ⟨some 21, .move (.tmp 5), _, _, _, none⟩ hS ?_
      refine tV 1 ⟨some 22, .binOp .neq 31 (.tmp 21) (.const (.int .i64 0)) 31, _, _, _, none⟩ hS ?_
      refine tV 2 ⟨some 23, .move (.tmp 22), _, _, _, none⟩ hS ?_
      refine tV 3 ⟨some 24, .move (.tmp 0), _, _, _, some (2, false)⟩ hS ?_
      refine tV 4 ⟨some 25, .move (.tmp 3), _, _, _, some (2, false)⟩ hS ?_
      refine tV 5 ⟨some 26, .indexAddr 23 (.tmp 24) (.tmp 25), _, _, _, some (2, false)⟩ hS ?_
      refine tV 6 ⟨some 27, .fieldAddr 51 (.tmp 26) 0, _, _, _, some (2, false)⟩ hS ?_
      refine tL 7 ⟨some 28, .load 9 (.tmp 27), _, _, _, some (2, false)⟩ hS ?_
      refine tV 8 ⟨some 29, .binOp .eql 9 (.tmp 28) (.const (.string { data := #[] })) 9, _, _, _, some (2, false)⟩ hS ?_
      refine tV 9 ⟨some 30, .pick (.tmp 23) (.const (.bool true)) (.tmp 29), _, _, _, none⟩ hS ?_
      refine tV 10 ⟨some 31, .move (.tmp 30), _, _, _, none⟩ hS ?_
      refine tV 11 ⟨some 32, .move (.tmp 0), _, _, _, some (10, false)⟩ hS ?_
      refine tV 12 ⟨some 33, .move (.tmp 3), _, _, _, some (10, false)⟩ hS ?_
      refine tV 13 ⟨some 34, .indexAddr 23 (.tmp 32) (.tmp 33), _, _, _, some (10, false)⟩ hS ?_
      refine tV 14 ⟨some 35, .fieldAddr 51 (.tmp 34) 1, _, _, _, some (10, false)⟩ hS ?_
      refine tL 15 ⟨some 36, .load 49 (.tmp 35), _, _, _, some (10, false)⟩ hS ?_
      refine tV 16 ⟨some 37, .move (.tmp 0), _, _, _, some (10, false)⟩ hS ?_
      refine tV 17 ⟨some 38, .move (.tmp 3), _, _, _, some (10, false)⟩ hS ?_
      refine tV 18 ⟨some 39, .indexAddr 23 (.tmp 37) (.tmp 38), _, _, _, some (10, false)⟩ hS ?_
      refine tV 19 ⟨some 40, .fieldAddr 51 (.tmp 39) 2, _, _, _, some (10, false)⟩ hS ?_
      refine tL 20 ⟨some 41, .load 49 (.tmp 40), _, _, _, some (10, false)⟩ hS ?_
      refine tV 21 ⟨some 42, .binOp .eql 49 (.tmp 36) (.tmp 41) 49, _, _, _, some (10, false)⟩ hS ?_
      refine tV 22 ⟨some 43, .pick (.tmp 31) (.const (.bool true)) (.tmp 42), _, _, _, none⟩ hS ?_
      refine tV 23 ⟨some 44, .move (.tmp 43), _, _, _, none⟩ hS ?_
      refine tV 24 ⟨some 45, .move (.tmp 0), _, _, _, some (23, false)⟩ hS ?_
      refine tV 25 ⟨some 46, .move (.tmp 3), _, _, _, some (23, false)⟩ hS ?_
      refine tV 26 ⟨some 47, .indexAddr 23 (.tmp 45) (.tmp 46), _, _, _, some (23, false)⟩ hS ?_
      refine tV 27 ⟨some 48, .fieldAddr 51 (.tmp 47) 1, _, _, _, some (23, false)⟩ hS ?_
      refine tL 28 ⟨some 49, .load 49 (.tmp 48), _, _, _, some (23, false)⟩ hS ?_
      refine wpAnyH_ready (rs := [29]) (by kernel_rfl) (by simp) ?_
      refine (AllReadyH.cons (o := ⟨some 50, .call { callee := .value (.func 51), args := #[.tmp 49], argTypes := #[49] }, _, _, _, some (23, false)⟩) rfl (fun K hK => ?_) AllReadyH.nil)
      (go_simp; refine (HA.out _ _ hO).mono ?_; clear hO; rintro e w5 ⟨v, h1, h2, hO⟩; cases h1; cases h2)
      refine hK.out _ _ ⟨(f0.out _ (hO.suf sfx)).2.1, (f0.out _ (hO.suf sfx)).2.2.1, (f0.out _ (hO.suf sfx)).2.2.2⟩ (fun hS => ?_)
      clear hK K
      try simp only [Act.put, sb, s0, sz]
      refine tV 30 ⟨some 51, .unOp Go.UnOp.not 4 (.tmp 50), _, _, _, some (23, false)⟩ hS ?_
      refine tV 31 ⟨some 52, .pick (.tmp 44) (.const (.bool true)) (.tmp 51), _, _, _, none⟩ hS ?_
      refine tV 32 ⟨some 53, .move (.tmp 52), _, _, _, none⟩ hS ?_
      refine tV 33 ⟨some 54, .move (.tmp 0), _, _, _, some (32, false)⟩ hS ?_
      refine tV 34 ⟨some 55, .move (.tmp 3), _, _, _, some (32, false)⟩ hS ?_
      refine tV 35 ⟨some 56, .indexAddr 23 (.tmp 54) (.tmp 55), _, _, _, some (32, false)⟩ hS ?_
      refine tV 36 ⟨some 57, .fieldAddr 51 (.tmp 56) 2, _, _, _, some (32, false)⟩ hS ?_
      refine tL 37 ⟨some 58, .load 49 (.tmp 57), _, _, _, some (32, false)⟩ hS ?_
      refine wpAnyH_ready (rs := [38]) (by kernel_rfl) (by simp) ?_
      refine (AllReadyH.cons (o := ⟨some 59, .call { callee := .value (.func 51), args := #[.tmp 58], argTypes := #[49] }, _, _, _, some (32, false)⟩) rfl (fun K hK => ?_) AllReadyH.nil)
      (go_simp; refine (HB.out _ _ hO).mono ?_; clear hO; rintro e w5 ⟨v, h1, h2, hO⟩; cases h1; cases h2)
      refine hK.out _ _ ⟨(f0.out _ (hO.suf sfx)).2.1, (f0.out _ (hO.suf sfx)).2.2.1, (f0.out _ (hO.suf sfx)).2.2.2⟩ (fun hS => ?_)
      clear hK K
      try simp only [Act.put, sb, s0, sz]
      refine tV 39 ⟨some 60, .unOp Go.UnOp.not 4 (.tmp 59), _, _, _, some (32, false)⟩ hS ?_
      refine tV 40 ⟨some 61, .pick (.tmp 53) (.const (.bool true)) (.tmp 60), _, _, _, none⟩ hS ?_
      refine wpAnyH_done (by kernel_rfl) ?_ _
      all_goals
        clear hS hE
        have hE := hO.tail
        clear hO
        cases k with
        | zero =>
          go_wp2
          refine wp_region_held_drew (S := (fun _ => True)) (by kernel_rfl) trivial (fun hS => ?_)
          refine tV 0 ⟨some 62, .move (.tmp 3), _, _, _, none⟩ hS ?_
          refine tV 1 ⟨some 63, .binOp .gtr 3 (.tmp 62) (.const (.int .i64 0)) 3, _, _, _, none⟩ hS ?_
          refine tV 2 ⟨some 64, .move (.tmp 63), _, _, _, none⟩ hS ?_
          refine tU 3 ⟨some 65, .move (.tmp 0), _, _, _, some (2, true)⟩ hS ?_
          refine tU 4 ⟨some 66, .move (.tmp 3), _, _, _, some (2, true)⟩ hS ?_
          refine tU 5 ⟨some 67, .binOp .sub 3 (.tmp 66) (.const (.int .i64 1)) 3, _, _, _, some (2, true)⟩ hS ?_
          refine tU 6 ⟨some 68, .indexAddr 23 (.tmp 65) (.tmp 67), _, _, _, some (2, true)⟩ hS ?_
          refine tU 7 ⟨some 69, .fieldAddr 51 (.tmp 68) 0, _, _, _, some (2, true)⟩ hS ?_
          refine tU 8 ⟨some 70, .load 9 (.tmp 69), _, _, _, some (2, true)⟩ hS ?_
          refine tU 9 ⟨some 71, .move (.tmp 0), _, _, _, some (2, true)⟩ hS ?_
          refine tU 10 ⟨some 72, .move (.tmp 3), _, _, _, some (2, true)⟩ hS ?_
          refine tU 11 ⟨some 73, .indexAddr 23 (.tmp 71) (.tmp 72), _, _, _, some (2, true)⟩ hS ?_
          refine tU 12 ⟨some 74, .fieldAddr 51 (.tmp 73) 0, _, _, _, some (2, true)⟩ hS ?_
          refine tU 13 ⟨some 75, .load 9 (.tmp 74), _, _, _, some (2, true)⟩ hS ?_
          refine tU 14 ⟨some 76, .call { callee := .value (.func 52), args := #[.tmp 70, .tmp 75], argTypes := #[9, 9] }, _, _, _, some (2, true)⟩ hS ?_
          refine tU 15 ⟨some 77, .binOp .neq 3 (.tmp 76) (.const (.int .i64 (-1))) 3, _, _, _, some (2, true)⟩ hS ?_
          refine tV 16 ⟨some 78, .pick (.tmp 64) (.tmp 77) (.const (.bool false)), _, _, _, none⟩ hS ?_
          refine wpAnyH_done (by kernel_rfl) ?_ _
          all_goals
            clear hS
            replace hE := hE.drew
            go_wp2
            go_roundw
            case rel => exact ⟨1, hlt, by first | rfl | simp, Hst.out.1.2 ⟨Hb.out, fun y hy => by simp at hy⟩, hE⟩
            case measure => simp [intOf] <;> omega
        | succ j =>
          have hjl : j < es.length := by omega
          have f1 := SL.hid (show ∀ w, Ent l w → _ from fun w h => load_rc (hk w h) hjl)
          have Hla := SL.hid (last_take hlt)
          have hyl := Hp.out es[j] (List.getElem_mem hjl)
          generalize es[j] = y at *
          have HO2 := SL.hid (fun (L : List HProp) (w : World) (h : Ent L w) => HO.out L w y.path hyl h)
          have hw1 : IntKind.i64.wrap (j : Int) = j := wrap_id (by omega)
          have h0j : (0 : Int) < (j : Int) + 1 := by omega
          have h1j : (0 : Int) ≤ (j : Int) + 1 := by omega
          have h2j : (j : Int) + 1 < (es.length : Int) := by omega
          rcases ord_cases y.path xp with ⟨ho, h1⟩ | ⟨ho, h1, h2⟩ | ⟨ho, h1, h2⟩
          · have Hls := SL.hid h1
            rw [ho] at HO2
            clear ho h1 hyl
            go_wp2
            have hO := hE.drew
            refine wp_region_held_drew (S := (fun w' => ((Instr.loadAt 9 (.pointer (some ⟨b, off + j * 7, none⟩))).run Tryd.prog w' = .ok (.string ⟨y.path.toArray⟩) w') ∧ ((Instr.loadAt 9 (.pointer (some ⟨b, off + (j + 1) * 7, none⟩))).run Tryd.prog w' = .ok (.string ⟨xp.toArray⟩) w'))) (by kernel_rfl) ⟨(f1.out _ (hO.suf sfx)).2.1, (f0.out _ (hO.suf sfx)).2.1⟩ (fun hS => ?_)
            refine tV 0 ⟨some 62, .move (.tmp 3), _, _, _, none⟩ hS ?_
            refine tV 1 ⟨some 63, .binOp .gtr 3 (.tmp 62) (.const (.int .i64 0)) 3, _, _, _, none⟩ hS ?_
            refine tV 2 ⟨some 64, .move (.tmp 63), _, _, _, none⟩ hS ?_
            refine tV 3 ⟨some 65, .move (.tmp 0), _, _, _, some (2, true)⟩ hS ?_
            refine tV 4 ⟨some 66, .move (.tmp 3), _, _, _, some (2, true)⟩ hS ?_
            refine tV 5 ⟨some 67, .binOp .sub 3 (.tmp 66) (.const (.int .i64 1)) 3, _, _, _, some (2, true)⟩ hS ?_
            refine tV 6 ⟨some 68, .indexAddr 23 (.tmp 65) (.tmp 67), _, _, _, some (2, true)⟩ hS ?_
            refine tV 7 ⟨some 69, .fieldAddr 51 (.tmp 68) 0, _, _, _, some (2, true)⟩ hS ?_
            refine tL 8 ⟨some 70, .load 9 (.tmp 69), _, _, _, some (2, true)⟩ hS ?_
            refine tV 9 ⟨some 71, .move (.tmp 0), _, _, _, some (2, true)⟩ hS ?_
            refine tV 10 ⟨some 72, .move (.tmp 3), _, _, _, some (2, true)⟩ hS ?_
            refine tV 11 ⟨some 73, .indexAddr 23 (.tmp 71) (.tmp 72), _, _, _, some (2, true)⟩ hS ?_
            refine tV 12 ⟨some 74, .fieldAddr 51 (.tmp 73) 0, _, _, _, some (2, true)⟩ hS ?_
            refine tL 13 ⟨some 75, .load 9 (.tmp 74), _, _, _, some (2, true)⟩ hS ?_
            refine wpAnyH_ready (rs := [14]) (by kernel_rfl) (by simp) ?_
            refine (AllReadyH.cons (o := ⟨some 76, .call { callee := .value (.func 52), args := #[.tmp 70, .tmp 75], argTypes := #[9, 9] }, _, _, _, some (2, true)⟩) rfl (fun K hK => ?_) AllReadyH.nil)
            (go_simp; refine (HO2.out _ _ hO).mono ?_; clear hO; rintro e w5 ⟨v, h1, h2, hO⟩; cases h1; cases h2)
            refine hK.out _ _ ⟨(f1.out _ (hO.suf sfx)).2.1, (f0.out _ (hO.suf sfx)).2.1⟩ (fun hS => ?_)
            clear hK K
            try simp only [Act.put, sb, s0, sz]
            refine tV 15 ⟨some 77, .binOp .neq 3 (.tmp 76) (.const (.int .i64 (-1))) 3, _, _, _, some (2, true)⟩ hS ?_
            refine tV 16 ⟨some 78, .pick (.tmp 64) (.tmp 77) (.const (.bool false)), _, _, _, none⟩ hS ?_
            refine wpAnyH_done (by kernel_rfl) ?_ _
            all_goals
              clear hS hE
              have hE := hO
              clear hO
              go_wp2
              go_roundw
              case rel => exact ⟨j + 1 + 1, hlt, by first | rfl | simp, Hst.out.1.2 ⟨Hb.out, fun z hz => by rw [Hla.out] at hz; cases hz; exact Hls.out⟩, hE⟩
              case measure => simp [intOf] <;> omega
          · have Hls := SL.hid h1
            rw [ho] at HO2
            clear ho h1 h2 hyl
            go_wp2
            have hO := hE.drew
            refine wp_region_held_drew (S := (fun w' => ((Instr.loadAt 9 (.pointer (some ⟨b, off + j * 7, none⟩))).run Tryd.prog w' = .ok (.string ⟨y.path.toArray⟩) w') ∧ ((Instr.loadAt 9 (.pointer (some ⟨b, off + (j + 1) * 7, none⟩))).run Tryd.prog w' = .ok (.string ⟨xp.toArray⟩) w'))) (by kernel_rfl) ⟨(f1.out _ (hO.suf sfx)).2.1, (f0.out _ (hO.suf sfx)).2.1⟩ (fun hS => ?_)
            refine tV 0 ⟨some 62, .move (.tmp 3), _, _, _, none⟩ hS ?_
            refine tV 1 ⟨some 63, .binOp .gtr 3 (.tmp 62) (.const (.int .i64 0)) 3, _, _, _, none⟩ hS ?_
            refine tV 2 ⟨some 64, .move (.tmp 63), _, _, _, none⟩ hS ?_
            refine tV 3 ⟨some 65, .move (.tmp 0), _, _, _, some (2, true)⟩ hS ?_
            refine tV 4 ⟨some 66, .move (.tmp 3), _, _, _, some (2, true)⟩ hS ?_
            refine tV 5 ⟨some 67, .binOp .sub 3 (.tmp 66) (.const (.int .i64 1)) 3, _, _, _, some (2, true)⟩ hS ?_
            refine tV 6 ⟨some 68, .indexAddr 23 (.tmp 65) (.tmp 67), _, _, _, some (2, true)⟩ hS ?_
            refine tV 7 ⟨some 69, .fieldAddr 51 (.tmp 68) 0, _, _, _, some (2, true)⟩ hS ?_
            refine tL 8 ⟨some 70, .load 9 (.tmp 69), _, _, _, some (2, true)⟩ hS ?_
            refine tV 9 ⟨some 71, .move (.tmp 0), _, _, _, some (2, true)⟩ hS ?_
            refine tV 10 ⟨some 72, .move (.tmp 3), _, _, _, some (2, true)⟩ hS ?_
            refine tV 11 ⟨some 73, .indexAddr 23 (.tmp 71) (.tmp 72), _, _, _, some (2, true)⟩ hS ?_
            refine tV 12 ⟨some 74, .fieldAddr 51 (.tmp 73) 0, _, _, _, some (2, true)⟩ hS ?_
            refine tL 13 ⟨some 75, .load 9 (.tmp 74), _, _, _, some (2, true)⟩ hS ?_
            refine wpAnyH_ready (rs := [14]) (by kernel_rfl) (by simp) ?_
            refine (AllReadyH.cons (o := ⟨some 76, .call { callee := .value (.func 52), args := #[.tmp 70, .tmp 75], argTypes := #[9, 9] }, _, _, _, some (2, true)⟩) rfl (fun K hK => ?_) AllReadyH.nil)
            (go_simp; refine (HO2.out _ _ hO).mono ?_; clear hO; rintro e w5 ⟨v, h1, h2, hO⟩; cases h1; cases h2)
            refine hK.out _ _ ⟨(f1.out _ (hO.suf sfx)).2.1, (f0.out _ (hO.suf sfx)).2.1⟩ (fun hS => ?_)
            clear hK K
            try simp only [Act.put, sb, s0, sz]
            refine tV 15 ⟨some 77, .binOp .neq 3 (.tmp 76) (.const (.int .i64 (-1))) 3, _, _, _, some (2, true)⟩ hS ?_
            refine tV 16 ⟨some 78, .pick (.tmp 64) (.tmp 77) (.const (.bool false)), _, _, _, none⟩ hS ?_
            refine wpAnyH_done (by kernel_rfl) ?_ _
            all_goals
              clear hS hE
              have hE := hO
              clear hO
              go_wp2
              refine bodyPost_ret (results_tmp rfl _ _ _) rfl ?_
              exact ⟨_, rfl, .mk false hE (iff_of_false (by decide) (fun h => by have := (Hst.out.2 h).2 _ Hla.out; rw [Hls.out] at this; cases this))⟩
          · have Hls := SL.hid h1
            rw [ho] at HO2
            clear ho h1 h2 hyl
            go_wp2
            have hO := hE.drew
            refine wp_region_held_drew (S := (fun w' => ((Instr.loadAt 9 (.pointer (some ⟨b, off + j * 7, none⟩))).run Tryd.prog w' = .ok (.string ⟨y.path.toArray⟩) w') ∧ ((Instr.loadAt 9 (.pointer (some ⟨b, off + (j + 1) * 7, none⟩))).run Tryd.prog w' = .ok (.string ⟨xp.toArray⟩) w'))) (by kernel_rfl) ⟨(f1.out _ (hO.suf sfx)).2.1, (f0.out _ (hO.suf sfx)).2.1⟩ (fun hS => ?_)
            refine tV 0 ⟨some 62, .move (.tmp 3), _, _, _, none⟩ hS ?_
            refine tV 1 ⟨some 63, .binOp .gtr 3 (.tmp 62) (.const (.int .i64 0)) 3, _, _, _, none⟩ hS ?_
            refine tV 2 ⟨some 64, .move (.tmp 63), _, _, _, none⟩ hS ?_
            refine tV 3 ⟨some 65, .move (.tmp 0), _, _, _, some (2, true)⟩ hS ?_
            refine tV 4 ⟨some 66, .move (.tmp 3), _, _, _, some (2, true)⟩ hS ?_
            refine tV 5 ⟨some 67, .binOp .sub 3 (.tmp 66) (.const (.int .i64 1)) 3, _, _, _, some (2, true)⟩ hS ?_
            refine tV 6 ⟨some 68, .indexAddr 23 (.tmp 65) (.tmp 67), _, _, _, some (2, true)⟩ hS ?_
            refine tV 7 ⟨some 69, .fieldAddr 51 (.tmp 68) 0, _, _, _, some (2, true)⟩ hS ?_
            refine tL 8 ⟨some 70, .load 9 (.tmp 69), _, _, _, some (2, true)⟩ hS ?_
            refine tV 9 ⟨some 71, .move (.tmp 0), _, _, _, some (2, true)⟩ hS ?_
            refine tV 10 ⟨some 72, .move (.tmp 3), _, _, _, some (2, true)⟩ hS ?_
            refine tV 11 ⟨some 73, .indexAddr 23 (.tmp 71) (.tmp 72), _, _, _, some (2, true)⟩ hS ?_
            refine tV 12 ⟨some 74, .fieldAddr 51 (.tmp 73) 0, _, _, _, some (2, true)⟩ hS ?_
            refine tL 13 ⟨some 75, .load 9 (.tmp 74), _, _, _, some (2, true)⟩ hS ?_
            refine wpAnyH_ready (rs := [14]) (by kernel_rfl) (by simp) ?_
            refine (AllReadyH.cons (o := ⟨some 76, .call { callee := .value (.func 52), args := #[.tmp 70, .tmp 75], argTypes := #[9, 9] }, _, _, _, some (2, true)⟩) rfl (fun K hK => ?_) AllReadyH.nil)
            (go_simp; refine (HO2.out _ _ hO).mono ?_; clear hO; rintro e w5 ⟨v, h1, h2, hO⟩; cases h1; cases h2)
            refine hK.out _ _ ⟨(f1.out _ (hO.suf sfx)).2.1, (f0.out _ (hO.suf sfx)).2.1⟩ (fun hS => ?_)
            clear hK K
            try simp only [Act.put, sb, s0, sz]
            refine tV 15 ⟨some 77, .binOp .neq 3 (.tmp 76) (.const (.int .i64 (-1))) 3, _, _, _, some (2, true)⟩ hS ?_
            refine tV 16 ⟨some 78, .pick (.tmp 64) (.tmp 77) (.const (.bool false)), _, _, _, none⟩ hS ?_
            refine wpAnyH_done (by kernel_rfl) ?_ _
            all_goals
              clear hS hE
              have hE := hO
              clear hO
              go_wp2
              refine bodyPost_ret (results_tmp rfl _ _ _) rfl ?_
              exact ⟨_, rfl, .mk false hE (iff_of_false (by decide) (fun h => by have := (Hst.out.2 h).2 _ Hla.out; rw [Hls.out] at this; cases this))⟩
    · obtain rfl : k = es.length := by omega
      rw [List.take_length] at hpre
      have R := SL.hid hpre
      clear hpre
      go_wp2
      refine bodyPost_ret (results_tmp rfl _ _ _) rfl ?_
      exact ⟨_, rfl, .mk true hE (iff_of_true rfl R.out)⟩
end Go.Proofs.YtljfkejkohmimaaDoor
namespace Go.Proofs.YtljfkejkohmimaaDoor
open Go.RowKit Go.SL

def atD (L : List En) (p : List UInt8) : Int := if L.findIdx (fun x => x.path == p) < L.length then ((L.findIdx (fun x => x.path == p) : Nat) : Int) else -1
theorem atD_at {L : List En} {p : List UInt8} {k : Nat} (hk : k < L.length) (h : L[k].path = p) (hb : ∀ x ∈ L.take k, x.path ≠ p) : atD L p = (k : Int) := by
  have e : L.findIdx (fun x => x.path == p) = k := by
    refine (List.findIdx_eq hk).2 ⟨by simpa using h, fun j hj => ?_⟩
    have := hb (L[j]'(by omega)) (List.mem_iff_getElem.2 ⟨j, by rw [List.length_take]; omega, by simp⟩)
    simpa using this
  rw [atD, e, if_pos hk]
theorem atD_no {L : List En} {p : List UInt8} (hb : ∀ x ∈ L, x.path ≠ p) : atD L p = -1 := by
  have e : L.findIdx (fun x => x.path == p) = L.length := List.findIdx_eq_length.2 (fun x hx => by simpa using hb x hx)
  rw [atD, e, if_neg (by omega)]
theorem atD_has (L : List En) (p : List UInt8) : decide (0 ≤ atD L p) = hasD L p := by
  rw [Bool.eq_iff_iff, decide_eq_true_iff, hasD, List.any_eq_true, atD]
  by_cases h : L.findIdx (fun x => x.path == p) < L.length
  · rw [if_pos h]
    exact ⟨fun _ => ⟨_, List.getElem_mem h, List.findIdx_getElem (w := h)⟩, fun _ => by omega⟩
  · rw [if_neg h]
    refine ⟨fun h => by omega, fun ⟨x, hx, hp⟩ => absurd (List.findIdx_lt_length_of_exists ⟨x, hx, hp⟩) h⟩
def AtRelD (L : List En) (p : List UInt8) (l : List HProp) (i : Value) (wr : World) : Prop :=
  ∃ k : Nat, k ≤ L.length ∧ i = .int .i64 k ∧ (∀ x ∈ L.take k, x.path ≠ p) ∧ Ent l wr
set_option maxRecDepth 100000 in
set_option maxHeartbeats 2000000 in
attribute [-go_sem] Instr.loadAt in
theorem at_any {L : List En} (hL : L.length ≤ 1000000) (p : List UInt8) {ao : Option Addr} {c : Nat} {l : List HProp} {w : World} (hk : Knows l (reads (.slice ao L.length c) L.length (L.flatMap enC))) (hE : Ent l w) :
    Calls Tryd.prog 64 #[.agg #[.slice ao L.length c], .string ⟨p.toArray⟩] w (Ret fun v w' => v = .int .i64 (atD L p) ∧ Ent l w') := by
  go_enter Tryd.func64, Tryd.ntmps64
  go_wp2_with (first
    | go_skip
    | ((with_reducible (show Go.wpList _ _ _ (Go.Oper.mk _ (.box _ _) _ _ _ _ :: _) _ _)); refine wpl_box hE rfl rfl rfl ?_; clear hE; intro b2 w hE; simp only [Act.eval, Act.put, List.setIfInBounds_toArray, List.set_cons_zero, List.set_cons_succ, getD_lit, List.getD_cons_succ, List.getD_cons_zero, Value.cells] at hE))
  go_loopw [5] (fun i wr => AtRelD L p (pt b2 (.cells #[.slice ao L.length c] 78) :: l) i wr) (fun i _ => L.length - (intOf i).toNat)
  case atStart => exact ⟨0, Nat.zero_le _, rfl, by simp, hE⟩
  case round =>
    clear hE
    obtain ⟨k, hkn, rfl, hin, hE⟩ := hrel
    have Hin := SL.hid hin
    clear hin
    by_cases hlt : k < L.length
    · obtain ⟨b, off, rfl, hz⟩ := en_at (hk _ hE.tail) hlt
      clear hz
      have htk := SL.hid (List.take_succ_eq_append_getElem hlt)
      have f0 := SL.hid (show ∀ w, Ent l w → _ from fun w h => (load_en (hk w h) hlt).2.1)
      have HA := SL.hid (fun (h : L[k].path = p) => atD_at (p := p) hlt h Hin.out)
      generalize L[k] = x at *
      obtain ⟨xp, xd, xb⟩ := x
      simp only at f0 HA
      have hm := mkb xp p
      cases hp : (xp == p) with
      | true =>
        obtain rfl : xp = p := by simpa using hp
        rw [hp] at hm
        go_wp2_with (first
          | go_skip
          | ((with_reducible (show Go.wpList _ _ _ (Go.Oper.mk _ (.load 9 _) _ _ _ _ :: _) _ _)); refine wpl_run rfl (w' := wr) (v := .string ⟨xp.toArray⟩) (by simp only [execOp, Act.eval]; simp [f0.out _ hE.tail]) ?_)
          | ((with_reducible (show Go.wpList _ _ _ (Go.Oper.mk _ (.load _ _) _ _ _ _ :: _) _ _)); (first | (refine wpl_load1 hE 0 rfl rfl rfl rfl (by simp [go_sem]) rfl ?_) | (refine wpl_load1 hE 1 rfl rfl rfl rfl (by simp [go_sem]) rfl ?_) | (refine wpl_load1 hE 2 rfl rfl rfl rfl (by simp [go_sem]) rfl ?_) | (refine wpl_load1 hE 3 rfl rfl rfl rfl (by simp [go_sem]) rfl ?_) | (refine wpl_load1 hE 4 rfl rfl rfl rfl (by simp [go_sem]) rfl ?_) | (refine wpl_load1 hE 5 rfl rfl rfl rfl (by simp [go_sem]) rfl ?_) | (refine wpl_load1 hE 6 rfl rfl rfl rfl (by simp [go_sem]) rfl ?_) | (refine wpl_load1 hE 7 rfl rfl rfl rfl (by simp [go_sem]) rfl ?_))))
        refine bodyPost_ret (results_tmp rfl _ _ _) rfl ?_
        exact ⟨_, rfl, by rw [HA.out trivial]; rfl, hE.tail⟩
      | false =>
        rw [hp] at hm
        go_wp2_with (first
          | go_skip
          | ((with_reducible (show Go.wpList _ _ _ (Go.Oper.mk _ (.load 9 _) _ _ _ _ :: _) _ _)); refine wpl_run rfl (w' := wr) (v := .string ⟨xp.toArray⟩) (by simp only [execOp, Act.eval]; simp [f0.out _ hE.tail]) ?_)
          | ((with_reducible (show Go.wpList _ _ _ (Go.Oper.mk _ (.load _ _) _ _ _ _ :: _) _ _)); (first | (refine wpl_load1 hE 0 rfl rfl rfl rfl (by simp [go_sem]) rfl ?_) | (refine wpl_load1 hE 1 rfl rfl rfl rfl (by simp [go_sem]) rfl ?_) | (refine wpl_load1 hE 2 rfl rfl rfl rfl (by simp [go_sem]) rfl ?_) | (refine wpl_load1 hE 3 rfl rfl rfl rfl (by simp [go_sem]) rfl ?_) | (refine wpl_load1 hE 4 rfl rfl rfl rfl (by simp [go_sem]) rfl ?_) | (refine wpl_load1 hE 5 rfl rfl rfl rfl (by simp [go_sem]) rfl ?_) | (refine wpl_load1 hE 6 rfl rfl rfl rfl (by simp [go_sem]) rfl ?_) | (refine wpl_load1 hE 7 rfl rfl rfl rfl (by simp [go_sem]) rfl ?_))))
        go_roundw
        case rel =>
          refine ⟨k + 1, hlt, by simp, ?_, hE⟩
          rw [htk.out]
          intro y hy
          rcases List.mem_append.1 hy with h | h
          · exact Hin.out y h
          · rw [List.mem_singleton.1 h]; simpa using hp
        case measure => simp [intOf]; omega
    · obtain rfl : k = L.length := by omega
      have HN := SL.hid (atD_no (p := p) (by have := Hin.out; rwa [List.take_length] at this))
      go_wp2_with (first
        | go_skip
        | ((with_reducible (show Go.wpList _ _ _ (Go.Oper.mk _ (.load _ _) _ _ _ _ :: _) _ _)); (first | (refine wpl_load1 hE 0 rfl rfl rfl rfl (by simp [go_sem]) rfl ?_) | (refine wpl_load1 hE 1 rfl rfl rfl rfl (by simp [go_sem]) rfl ?_) | (refine wpl_load1 hE 2 rfl rfl rfl rfl (by simp [go_sem]) rfl ?_) | (refine wpl_load1 hE 3 rfl rfl rfl rfl (by simp [go_sem]) rfl ?_) | (refine wpl_load1 hE 4 rfl rfl rfl rfl (by simp [go_sem]) rfl ?_) | (refine wpl_load1 hE 5 rfl rfl rfl rfl (by simp [go_sem]) rfl ?_) | (refine wpl_load1 hE 6 rfl rfl rfl rfl (by simp [go_sem]) rfl ?_) | (refine wpl_load1 hE 7 rfl rfl rfl rfl (by simp [go_sem]) rfl ?_))))
      refine bodyPost_ret (results_tmp rfl _ _ _) rfl ?_
      exact ⟨_, rfl, by rw [HN.out]; rfl, hE.tail⟩
/-- a path's parent -/
theorem par_cut {p : List UInt8} {j : Nat} (hj : j < p.length) (h : p[j] = 47) (ha : ∀ c ∈ p.drop (j + 1), c ≠ 47) : parP p = p.take j := by
  have e : p = p.take j ++ 47 :: p.drop (j + 1) := by
    conv => lhs; rw [← List.take_append_drop j p, List.drop_eq_getElem_cons hj, h]
  conv => lhs; rw [e]
  exact parP_app ha
def PaRel (p : List UInt8) (l : List HProp) (i : Value) (wr : World) : Prop :=
  ∃ k : Nat, k ≤ p.length ∧ i = .int .i64 ((k : Int) - 1) ∧ (∀ x ∈ p.drop k, x ≠ 47) ∧ Ent l wr
set_option maxRecDepth 100000 in
set_option maxHeartbeats 2000000 in
theorem Parent_any {p : List UInt8} (hp : p.length ≤ 1000000) {l : List HProp} {w : World} (hE : Ent l w) :
    Calls Tryd.prog 66 #[.string ⟨p.toArray⟩] w (Ret fun v w' => v = .string ⟨(parP p).toArray⟩ ∧ Ent l w') := by
  have hw0 : wrap64 ((p.length : Int) - 1) = (p.length : Int) - 1 := by unfold wrap64; omega
  go_enter Tryd.func66, Tryd.ntmps66
  go_wp2
  go_loopw [3] (fun i wr => PaRel p l i wr) (fun i _ => (intOf i + 1).toNat)
  case atStart => exact ⟨p.length, Nat.le_refl _, by simp, by simp, hE⟩
  case round =>
    clear hE
    obtain ⟨k, hkn, rfl, hin, hE⟩ := hrel
    have Hin := SL.hid hin
    clear hin hw0
    by_cases h0 : k = 0
    · subst h0
      have HN := SL.hid (show parP p = [] from parP_free (by have := Hin.out; rwa [List.drop_zero] at this))
      go_wp2
      refine bodyPost_ret (results_tmp rfl _ _ _) rfl ?_
      exact ⟨_, rfl, by rw [HN.out]; rfl, hE⟩
    · obtain ⟨j, rfl⟩ : ∃ j, k = j + 1 := ⟨k - 1, by omega⟩
      have hi : j < p.length := by omega
      have e1 : (((j + 1 : Nat) : Int) - 1) = (j : Int) := by omega
      have hwj : wrap64 ((j : Int) - 1) = (j : Int) - 1 := by unfold wrap64; omega
      have hix := str_at p j (by rw [bytes_size]; exact hi)
      have hex : (⟨p.toArray⟩ : ByteArray).extract 0 j = ⟨(p.take j).toArray⟩ := by rw [extract_mk]; simp
      have hgd : p.getD j 0 = p[j] := by rw [List.getD_eq_getElem?_getD, List.getElem?_eq_getElem hi]; rfl
      have HC := SL.hid (fun (h : p[j] = 47) => par_cut (p := p) hi h Hin.out)
      have HD := SL.hid (List.drop_eq_getElem_cons hi)
      rw [e1]
      rw [hgd] at hix
      clear hgd e1
      generalize p[j] = b at *
      cases h47 : ((b.toNat : Int) == 47) with
      | true =>
        have e47 : b = 47 := by
          have : b.toNat = 47 := by
            have h : (b.toNat : Int) = 47 := by simpa using h47
            omega
          rw [← UInt8.toNat_inj, this]; rfl
        go_wp2
        refine bodyPost_ret (results_tmp rfl _ _ _) rfl ?_
        exact ⟨_, rfl, by rw [HC.out e47]; rfl, hE⟩
      | false =>
        have H1 := SL.hid (show b ≠ 47 by intro e; rw [e] at h47; simp at h47)
        go_wp2
        go_roundw
        case rel =>
          refine ⟨j, by omega, by first | rfl | simp, ?_, hE⟩
          rw [HD.out]
          intro d hd
          rcases List.mem_cons.1 hd with rfl | hd
          · exact H1.out
          · exact Hin.out d hd
        case measure => simp [intOf] <;> omega
end Go.Proofs.YtljfkejkohmimaaDoor
namespace Go.Proofs.YtljfkejkohmimaaDoor
open Go.RowKit Go.SL

theorem dirD_at {L : List En} (hn : (L.map En.path).Nodup) {p : List UInt8} {k : Nat} (hk : k < L.length) (h : L[k].path = p) : dirD L p = (p == [] || L[k].dir) := by
  rw [dirD]
  congr 1
  rw [Bool.eq_iff_iff, List.any_eq_true]
  constructor
  · rintro ⟨x, hx, h2⟩
    rw [Bool.and_eq_true, beq_iff_eq] at h2
    obtain ⟨j, hj, rfl⟩ := List.getElem_of_mem hx
    have : j = k := (List.getElem_inj (h₀ := by simpa using hj) (h₁ := by simpa using hk) hn).1 (by simp [h, h2.1])
    subst this
    exact h2.2
  · intro hd
    exact ⟨_, List.getElem_mem hk, by simp [h, hd]⟩
theorem dirD_no {L : List En} {p : List UInt8} (h : atD L p = -1) : dirD L p = (p == []) := by
  have : hasD L p = false := by rw [← atD_has, h]; rfl
  rw [dirD]
  have e : (L.any fun x => x.path == p && x.dir) = false := by
    rw [hasD, List.any_eq_false] at this
    rw [List.any_eq_false]
    intro x hx
    have := this x hx
    simp only [Bool.and_eq_true, not_and]
    exact fun h => absurd h this
  rw [e, Bool.or_false]
theorem atD_form (L : List En) (p : List UInt8) : atD L p = -1 ∨ ∃ (k : Nat) (h : k < L.length), atD L p = (k : Int) ∧ L[k].path = p := by
  rw [atD]
  by_cases h : L.findIdx (fun x => x.path == p) < L.length
  · rw [if_pos h]
    exact .inr ⟨_, h, rfl, by simpa using List.findIdx_getElem (w := h)⟩
  · rw [if_neg h]; exact .inl rfl
set_option maxRecDepth 100000 in
set_option maxHeartbeats 2000000 in
attribute [-go_sem] Instr.loadAt in
theorem dir_any {L : List En} (hL : L.length ≤ 1000000) (hn : (L.map En.path).Nodup) (p : List UInt8) {ao : Option Addr} {c : Nat} {l : List HProp} {w : World} (hk : Knows l (reads (.slice ao L.length c) L.length (L.flatMap enC))) (hE : Ent l w) :
    Calls Tryd.prog 65 #[.agg #[.slice ao L.length c], .string ⟨p.toArray⟩] w (Ret fun v w' => v = .bool (dirD L p) ∧ Ent l w') := by
  have HA := SL.hid (show ∀ (A : HProp) w, Ent (A :: l) w → Calls Tryd.prog 64 #[.agg #[.slice ao L.length c], .string ⟨p.toArray⟩] w (Ret fun v w' => v = .int .i64 (atD L p) ∧ Ent (A :: l) w') from fun A w h => at_any hL p (hk.suf (List.suffix_cons _ _)) h)
  have hmb := mkb p []
  rcases atD_form L p with h1 | ⟨k, hlt, h1, h2⟩
  · rw [h1] at HA
    have HD := SL.hid (dirD_no h1)
    clear h1 hk
    cases hp : (p == []) with
    | true =>
      rw [hp] at hmb HD
      go_enter Tryd.func65, Tryd.ntmps65
      go_wp2_with (first
        | go_skip
        | ((with_reducible (show Go.wpList _ _ _ (Go.Oper.mk _ (.box _ _) _ _ _ _ :: _) _ _)); refine wpl_box hE rfl rfl rfl ?_; clear hE; intro b2 w hE; simp only [Act.eval, Act.put, List.setIfInBounds_toArray, List.set_cons_zero, List.set_cons_succ, getD_lit, List.getD_cons_succ, List.getD_cons_zero, Value.cells] at hE)
        | (go_at_call 64; refine (HA.out _ _ hE).mono ?_; clear hE; rintro e w3 ⟨v, rfl, rfl, hE⟩)
        | ((with_reducible (show Go.wpList _ _ _ (Go.Oper.mk _ (.load 78 _) _ _ _ _ :: _) _ _)); (first | (refine wpl_loadW hE 0 rfl rfl rfl rfl Tryd.isAgg78 Tryd.sizeOf78 rfl ?_) | (refine wpl_loadW hE 1 rfl rfl rfl rfl Tryd.isAgg78 Tryd.sizeOf78 rfl ?_) | (refine wpl_loadW hE 2 rfl rfl rfl rfl Tryd.isAgg78 Tryd.sizeOf78 rfl ?_) | (refine wpl_loadW hE 3 rfl rfl rfl rfl Tryd.isAgg78 Tryd.sizeOf78 rfl ?_) | (refine wpl_loadW hE 4 rfl rfl rfl rfl Tryd.isAgg78 Tryd.sizeOf78 rfl ?_) | (refine wpl_loadW hE 5 rfl rfl rfl rfl Tryd.isAgg78 Tryd.sizeOf78 rfl ?_) | (refine wpl_loadW hE 6 rfl rfl rfl rfl Tryd.isAgg78 Tryd.sizeOf78 rfl ?_) | (refine wpl_loadW hE 7 rfl rfl rfl rfl Tryd.isAgg78 Tryd.sizeOf78 rfl ?_)))
        | ((with_reducible (show Go.wpList _ _ _ (Go.Oper.mk _ (.load _ _) _ _ _ _ :: _) _ _)); (first | (refine wpl_load1 hE 0 rfl rfl rfl rfl (by simp [go_sem]) rfl ?_) | (refine wpl_load1 hE 1 rfl rfl rfl rfl (by simp [go_sem]) rfl ?_) | (refine wpl_load1 hE 2 rfl rfl rfl rfl (by simp [go_sem]) rfl ?_) | (refine wpl_load1 hE 3 rfl rfl rfl rfl (by simp [go_sem]) rfl ?_) | (refine wpl_load1 hE 4 rfl rfl rfl rfl (by simp [go_sem]) rfl ?_) | (refine wpl_load1 hE 5 rfl rfl rfl rfl (by simp [go_sem]) rfl ?_) | (refine wpl_load1 hE 6 rfl rfl rfl rfl (by simp [go_sem]) rfl ?_) | (refine wpl_load1 hE 7 rfl rfl rfl rfl (by simp [go_sem]) rfl ?_))))
      refine bodyPost_ret (results_tmp rfl _ _ _) rfl ?_
      exact ⟨_, rfl, by rw [HD.out]; rfl, hE.tail⟩
    | false =>
      rw [hp] at hmb HD
      go_enter Tryd.func65, Tryd.ntmps65
      go_wp2_with (first
        | go_skip
        | ((with_reducible (show Go.wpList _ _ _ (Go.Oper.mk _ (.box _ _) _ _ _ _ :: _) _ _)); refine wpl_box hE rfl rfl rfl ?_; clear hE; intro b2 w hE; simp only [Act.eval, Act.put, List.setIfInBounds_toArray, List.set_cons_zero, List.set_cons_succ, getD_lit, List.getD_cons_succ, List.getD_cons_zero, Value.cells] at hE)
        | (go_at_call 64; refine (HA.out _ _ hE).mono ?_; clear hE; rintro e w3 ⟨v, rfl, rfl, hE⟩)
        | ((with_reducible (show Go.wpList _ _ _ (Go.Oper.mk _ (.load 78 _) _ _ _ _ :: _) _ _)); (first | (refine wpl_loadW hE 0 rfl rfl rfl rfl Tryd.isAgg78 Tryd.sizeOf78 rfl ?_) | (refine wpl_loadW hE 1 rfl rfl rfl rfl Tryd.isAgg78 Tryd.sizeOf78 rfl ?_) | (refine wpl_loadW hE 2 rfl rfl rfl rfl Tryd.isAgg78 Tryd.sizeOf78 rfl ?_) | (refine wpl_loadW hE 3 rfl rfl rfl rfl Tryd.isAgg78 Tryd.sizeOf78 rfl ?_) | (refine wpl_loadW hE 4 rfl rfl rfl rfl Tryd.isAgg78 Tryd.sizeOf78 rfl ?_) | (refine wpl_loadW hE 5 rfl rfl rfl rfl Tryd.isAgg78 Tryd.sizeOf78 rfl ?_) | (refine wpl_loadW hE 6 rfl rfl rfl rfl Tryd.isAgg78 Tryd.sizeOf78 rfl ?_) | (refine wpl_loadW hE 7 rfl rfl rfl rfl Tryd.isAgg78 Tryd.sizeOf78 rfl ?_)))
        | ((with_reducible (show Go.wpList _ _ _ (Go.Oper.mk _ (.load _ _) _ _ _ _ :: _) _ _)); (first | (refine wpl_load1 hE 0 rfl rfl rfl rfl (by simp [go_sem]) rfl ?_) | (refine wpl_load1 hE 1 rfl rfl rfl rfl (by simp [go_sem]) rfl ?_) | (refine wpl_load1 hE 2 rfl rfl rfl rfl (by simp [go_sem]) rfl ?_) | (refine wpl_load1 hE 3 rfl rfl rfl rfl (by simp [go_sem]) rfl ?_) | (refine wpl_load1 hE 4 rfl rfl rfl rfl (by simp [go_sem]) rfl ?_) | (refine wpl_load1 hE 5 rfl rfl rfl rfl (by simp [go_sem]) rfl ?_) | (refine wpl_load1 hE 6 rfl rfl rfl rfl (by simp [go_sem]) rfl ?_) | (refine wpl_load1 hE 7 rfl rfl rfl rfl (by simp [go_sem]) rfl ?_))))
      refine bodyPost_ret (results_tmp rfl _ _ _) rfl ?_
      exact ⟨_, rfl, by rw [HD.out]; rfl, hE.tail⟩
  · rw [h1] at HA
    have HD := SL.hid (dirD_at hn hlt h2)
    obtain ⟨b, off, rfl, hz⟩ := en_at (hk _ hE) hlt
    clear hz
    have f0 := SL.hid (show ∀ w, Ent l w → _ from fun w h => (load_en (hk w h) hlt).2.2.1)
    clear h1 h2 hk
    generalize L[k].dir = xd at *
    cases hp : (p == []) with
    | true =>
      rw [hp] at hmb HD
      go_enter Tryd.func65, Tryd.ntmps65
      go_wp2_with (first
        | go_skip
        | ((with_reducible (show Go.wpList _ _ _ (Go.Oper.mk _ (.box _ _) _ _ _ _ :: _) _ _)); refine wpl_box hE rfl rfl rfl ?_; clear hE; intro b2 w hE; simp only [Act.eval, Act.put, List.setIfInBounds_toArray, List.set_cons_zero, List.set_cons_succ, getD_lit, List.getD_cons_succ, List.getD_cons_zero, Value.cells] at hE)
        | (go_at_call 64; refine (HA.out _ _ hE).mono ?_; clear hE; rintro e w3 ⟨v, rfl, rfl, hE⟩)
        | ((with_reducible (show Go.wpList _ _ _ (Go.Oper.mk _ (.load 4 _) _ _ _ _ :: _) _ _)); refine wpl_run rfl (w' := w3) (v := .bool xd) (by simp only [execOp, Act.eval]; simp [f0.out _ hE.tail]) ?_)
        | ((with_reducible (show Go.wpList _ _ _ (Go.Oper.mk _ (.load 78 _) _ _ _ _ :: _) _ _)); (first | (refine wpl_loadW hE 0 rfl rfl rfl rfl Tryd.isAgg78 Tryd.sizeOf78 rfl ?_) | (refine wpl_loadW hE 1 rfl rfl rfl rfl Tryd.isAgg78 Tryd.sizeOf78 rfl ?_) | (refine wpl_loadW hE 2 rfl rfl rfl rfl Tryd.isAgg78 Tryd.sizeOf78 rfl ?_) | (refine wpl_loadW hE 3 rfl rfl rfl rfl Tryd.isAgg78 Tryd.sizeOf78 rfl ?_) | (refine wpl_loadW hE 4 rfl rfl rfl rfl Tryd.isAgg78 Tryd.sizeOf78 rfl ?_) | (refine wpl_loadW hE 5 rfl rfl rfl rfl Tryd.isAgg78 Tryd.sizeOf78 rfl ?_) | (refine wpl_loadW hE 6 rfl rfl rfl rfl Tryd.isAgg78 Tryd.sizeOf78 rfl ?_) | (refine wpl_loadW hE 7 rfl rfl rfl rfl Tryd.isAgg78 Tryd.sizeOf78 rfl ?_)))
        | ((with_reducible (show Go.wpList _ _ _ (Go.Oper.mk _ (.load _ _) _ _ _ _ :: _) _ _)); (first | (refine wpl_load1 hE 0 rfl rfl rfl rfl (by simp [go_sem]) rfl ?_) | (refine wpl_load1 hE 1 rfl rfl rfl rfl (by simp [go_sem]) rfl ?_) | (refine wpl_load1 hE 2 rfl rfl rfl rfl (by simp [go_sem]) rfl ?_) | (refine wpl_load1 hE 3 rfl rfl rfl rfl (by simp [go_sem]) rfl ?_) | (refine wpl_load1 hE 4 rfl rfl rfl rfl (by simp [go_sem]) rfl ?_) | (refine wpl_load1 hE 5 rfl rfl rfl rfl (by simp [go_sem]) rfl ?_) | (refine wpl_load1 hE 6 rfl rfl rfl rfl (by simp [go_sem]) rfl ?_) | (refine wpl_load1 hE 7 rfl rfl rfl rfl (by simp [go_sem]) rfl ?_))))
      refine bodyPost_ret (results_tmp rfl _ _ _) rfl ?_
      exact ⟨_, rfl, by rw [HD.out]; rfl, hE.tail⟩
    | false =>
      rw [hp] at hmb HD
      go_enter Tryd.func65, Tryd.ntmps65
      go_wp2_with (first
        | go_skip
        | ((with_reducible (show Go.wpList _ _ _ (Go.Oper.mk _ (.box _ _) _ _ _ _ :: _) _ _)); refine wpl_box hE rfl rfl rfl ?_; clear hE; intro b2 w hE; simp only [Act.eval, Act.put, List.setIfInBounds_toArray, List.set_cons_zero, List.set_cons_succ, getD_lit, List.getD_cons_succ, List.getD_cons_zero, Value.cells] at hE)
        | (go_at_call 64; refine (HA.out _ _ hE).mono ?_; clear hE; rintro e w3 ⟨v, rfl, rfl, hE⟩)
        | ((with_reducible (show Go.wpList _ _ _ (Go.Oper.mk _ (.load 4 _) _ _ _ _ :: _) _ _)); refine wpl_run rfl (w' := w3) (v := .bool xd) (by simp only [execOp, Act.eval]; simp [f0.out _ hE.tail]) ?_)
        | ((with_reducible (show Go.wpList _ _ _ (Go.Oper.mk _ (.load 78 _) _ _ _ _ :: _) _ _)); (first | (refine wpl_loadW hE 0 rfl rfl rfl rfl Tryd.isAgg78 Tryd.sizeOf78 rfl ?_) | (refine wpl_loadW hE 1 rfl rfl rfl rfl Tryd.isAgg78 Tryd.sizeOf78 rfl ?_) | (refine wpl_loadW hE 2 rfl rfl rfl rfl Tryd.isAgg78 Tryd.sizeOf78 rfl ?_) | (refine wpl_loadW hE 3 rfl rfl rfl rfl Tryd.isAgg78 Tryd.sizeOf78 rfl ?_) | (refine wpl_loadW hE 4 rfl rfl rfl rfl Tryd.isAgg78 Tryd.sizeOf78 rfl ?_) | (refine wpl_loadW hE 5 rfl rfl rfl rfl Tryd.isAgg78 Tryd.sizeOf78 rfl ?_) | (refine wpl_loadW hE 6 rfl rfl rfl rfl Tryd.isAgg78 Tryd.sizeOf78 rfl ?_) | (refine wpl_loadW hE 7 rfl rfl rfl rfl Tryd.isAgg78 Tryd.sizeOf78 rfl ?_)))
        | ((with_reducible (show Go.wpList _ _ _ (Go.Oper.mk _ (.load _ _) _ _ _ _ :: _) _ _)); (first | (refine wpl_load1 hE 0 rfl rfl rfl rfl (by simp [go_sem]) rfl ?_) | (refine wpl_load1 hE 1 rfl rfl rfl rfl (by simp [go_sem]) rfl ?_) | (refine wpl_load1 hE 2 rfl rfl rfl rfl (by simp [go_sem]) rfl ?_) | (refine wpl_load1 hE 3 rfl rfl rfl rfl (by simp [go_sem]) rfl ?_) | (refine wpl_load1 hE 4 rfl rfl rfl rfl (by simp [go_sem]) rfl ?_) | (refine wpl_load1 hE 5 rfl rfl rfl rfl (by simp [go_sem]) rfl ?_) | (refine wpl_load1 hE 6 rfl rfl rfl rfl (by simp [go_sem]) rfl ?_) | (refine wpl_load1 hE 7 rfl rfl rfl rfl (by simp [go_sem]) rfl ?_))))
      refine bodyPost_ret (results_tmp rfl _ _ _) rfl ?_
      exact ⟨_, rfl, by rw [HD.out]; rfl, hE.tail⟩
/-- the places of what is right in a directory -/
def kidsFrom (p : List UInt8) : Nat → List En → List Nat
  | _, [] => []
  | n, x :: r => if parP x.path == p then n :: kidsFrom p (n + 1) r else kidsFrom p (n + 1) r
theorem kidsFrom_snoc (p : List UInt8) (x : En) : ∀ (l : List En) (n : Nat), kidsFrom p n (l ++ [x]) = kidsFrom p n l ++ (if parP x.path == p then [n + l.length] else [])
  | [], n => by simp only [List.nil_append, kidsFrom, List.length_nil, Nat.add_zero]
  | y :: r, n => by
    rw [List.cons_append, kidsFrom, kidsFrom_snoc p x r (n + 1), kidsFrom, List.length_cons, show n + (r.length + 1) = n + 1 + r.length by omega]
    split <;> simp
theorem kidsFrom_lt (p : List UInt8) : ∀ (l : List En) (n : Nat), ∀ i ∈ kidsFrom p n l, n ≤ i ∧ i < n + l.length
  | [], n => by simp [kidsFrom]
  | y :: r, n => fun i hi => by
    have ih := kidsFrom_lt p r (n + 1)
    rw [kidsFrom] at hi
    rw [List.length_cons]
    split at hi
    · rcases List.mem_cons.1 hi with rfl | h
      · omega
      · have := ih i h; omega
    · have := ih i hi; omega
theorem kidsFrom_map (p : List UInt8) (d : En) : ∀ (r l : List En), (kidsFrom p l.length r).map (fun i => (l ++ r).getD i d) = kidsD r p
  | [], l => by simp [kidsFrom, kidsD]
  | y :: r, l => by
    have ih := kidsFrom_map p d r (l ++ [y])
    rw [List.append_assoc, List.singleton_append, List.length_append, List.length_singleton] at ih
    rw [kidsFrom, kidsD, List.filter_cons]
    split
    · rw [List.map_cons, ih, kidsD]
      congr 1
      rw [List.getD_eq_getElem?_getD, List.getElem?_append_right (Nat.le_refl _), Nat.sub_self]
      rfl
    · exact ih
def kidsI (L : List En) (p : List UInt8) : List Nat := kidsFrom p 0 L
theorem kidsI_map (L : List En) (p : List UInt8) (d : En) : (kidsI L p).map (fun i => L.getD i d) = kidsD L p := kidsFrom_map p d L []
theorem kidsI_len (L : List En) (p : List UInt8) : (kidsI L p).length = (kidsD L p).length := by rw [← kidsI_map L p ⟨[], false, []⟩, List.length_map]
theorem kidsI_lt {L : List En} {p : List UInt8} {i : Nat} (h : i ∈ kidsI L p) : i < L.length := by have := kidsFrom_lt p L 0 i h; omega
end Go.Proofs.YtljfkejkohmimaaDoor
namespace Go.Proofs.YtljfkejkohmimaaDoor
open Go.RowKit Go.SL

def intv (i : Nat) : Value := .int .i64 (i : Int)
abbrev rowN (ao : Option Addr) (c : Nat) (is : List Nat) : HProp := row 3 1 (.slice ao is.length c) is.length (is.map intv)
theorem info_int : elemInfo Tryd.prog 3 = some (some 1, 1, 8) := by kernel_rfl
theorem kidsI_snoc (L : List En) (p : List UInt8) {k : Nat} (hk : k < L.length) : kidsI (L.take (k + 1)) p = kidsI (L.take k) p ++ (if parP L[k].path == p then [k] else []) := by
  rw [kidsI, List.take_succ_eq_append_getElem hk, kidsFrom_snoc, List.length_take, Nat.min_eq_left (by omega), Nat.zero_add]
  rfl
theorem kidsI_le (L : List En) (p : List UInt8) : (kidsI L p).length ≤ L.length := by
  rw [kidsI_len, kidsD]; exact List.length_filter_le _ _
def KdRel (L : List En) (p : List UInt8) (l : List HProp) (o i : Value) (wr : World) : Prop :=
  ∃ (k : Nat) (ao : Option Addr) (c : Nat), k ≤ L.length ∧ i = .int .i64 k ∧ o = .slice ao (kidsI (L.take k) p).length c ∧ Ent (rowN ao c (kidsI (L.take k) p) :: l) wr
set_option maxRecDepth 100000 in
set_option maxHeartbeats 2000000 in
attribute [-go_sem] Instr.loadAt in
theorem kids_any {L : List En} (hL : L.length ≤ 1000000) (hb : ∀ x ∈ L, x.path.length ≤ 1000000) (p : List UInt8) {ao : Option Addr} {c : Nat} {l : List HProp} {w : World} (hk : Knows l (reads (.slice ao L.length c) L.length (L.flatMap enC))) (hE : Ent l w) :
    Calls Tryd.prog 67 #[.agg #[.slice ao L.length c], .string ⟨p.toArray⟩] w (Ret fun v w' => ∃ a' c', v = .slice a' (kidsI L p).length c' ∧ Ent (rowN a' c' (kidsI L p) :: l) w') := by
  go_enter Tryd.func67, Tryd.ntmps67
  go_wp2_with (first
    | go_skip
    | ((with_reducible (show Go.wpList _ _ _ (Go.Oper.mk _ (.box _ _) _ _ _ _ :: _) _ _)); refine wpl_box hE rfl rfl rfl ?_; clear hE; intro b2 w hE; simp only [Act.eval, Act.put, List.setIfInBounds_toArray, List.set_cons_zero, List.set_cons_succ, getD_lit, List.getD_cons_succ, List.getD_cons_zero, Value.cells] at hE))
  go_loopw [5, 6] (fun o i wr => KdRel L p (pt b2 (.cells #[.slice ao L.length c] 78) :: l) o i wr) (fun _ i _ => L.length - (intOf i).toNat)
  case atStart => exact ⟨0, none, 0, Nat.zero_le _, rfl, rfl, hE.nil _ _⟩
  case round =>
    clear hE
    obtain ⟨k, ar, cr, hkn, rfl, rfl, hE⟩ := hrel
    by_cases hlt : k < L.length
    · obtain ⟨b, off, rfl, hz⟩ := en_at (hk _ hE.tail.tail) hlt
      clear hz
      have f0 := SL.hid (show ∀ w, Ent l w → _ from fun w h => (load_en (hk w h) hlt).2.1)
      have Ht := SL.hid (kidsI_snoc L p hlt)
      have hlp := SL.hid (hb _ (List.getElem_mem hlt))
      have hle := kidsI_le (L.take k) p
      rw [List.length_take] at hle
      have HP := SL.hid (fun (l : List HProp) (w : World) (h : Ent l w) => Parent_any (p := L[k].path) (hb _ (List.getElem_mem hlt)) h)
      generalize L[k] = x at *
      generalize kidsI (L.take k) p = pr at *
      obtain ⟨xp, xd, xb⟩ := x
      simp only at f0 HP
      generalize hq : parP xp = q at *
      have Hq := SL.hid hq
      have hm := mkb q p
      clear hq
      cases hp : (q == p) with
      | true =>
        rw [hp] at hm
        go_wp2_with (first
          | go_skip
          | ((with_reducible (show Go.wpList _ _ _ (Go.Oper.mk _ (.load 9 _) _ _ _ _ :: _) _ _)); refine wpl_run rfl (w' := _) (v := .string ⟨xp.toArray⟩) (by simp only [execOp, Act.eval]; simp [f0.out _ hE.tail.tail]; rfl) ?_)
          | (go_at_call 66; refine (HP.out _ _ hE).mono ?_; clear hE; rintro e w3 ⟨v, rfl, rfl, hE⟩)
          | ((with_reducible (show Go.wpList _ _ _ (Go.Oper.mk _ (.load _ _) _ _ _ _ :: _) _ _)); (first | (refine wpl_load1 hE 0 rfl rfl rfl rfl (by simp [go_sem]) rfl ?_) | (refine wpl_load1 hE 1 rfl rfl rfl rfl (by simp [go_sem]) rfl ?_) | (refine wpl_load1 hE 2 rfl rfl rfl rfl (by simp [go_sem]) rfl ?_) | (refine wpl_load1 hE 3 rfl rfl rfl rfl (by simp [go_sem]) rfl ?_) | (refine wpl_load1 hE 4 rfl rfl rfl rfl (by simp [go_sem]) rfl ?_) | (refine wpl_load1 hE 5 rfl rfl rfl rfl (by simp [go_sem]) rfl ?_) | (refine wpl_load1 hE 6 rfl rfl rfl rfl (by simp [go_sem]) rfl ?_) | (refine wpl_load1 hE 7 rfl rfl rfl rfl (by simp [go_sem]) rfl ?_)))
          | ((with_reducible (show Go.wpList _ _ _ (Go.Oper.mk _ (.call { callee := .builtin .append, args := _, argTypes := _ }) _ _ _ _ :: _) _ _)); have hE9 := hE.alloc (.cells #[.int .i64 (k : Int)] 3); refine wpl_appendG hE9 1 rfl rfl rfl rfl rfl Tryd.underlying110 info_int (by decide) (m := 1) (news := [intv k]) (reads_pt hE9 0 rfl (off := 0) (fun j u hu => by rw [Nat.zero_add, List.getElem?_toArray]; exact hu)) rfl (by simp [intv, Value.oneCell']) (by omega) (by omega) ?_; clear hE9 hE; intro ao' c' w6 hE10; simp only [List.set_cons_zero, List.set_cons_succ] at hE10))
        go_roundw
        case rel =>
          have hF := hE10.tail
          have e0 : kidsI (L.take (k + 1)) p = pr ++ [k] := by rw [Ht.out]; simp only [Hq.out, hp, if_true]
          have e1 : (pr ++ [k]).length = pr.length + 1 := by simp
          have e2 : (pr ++ [k]).map intv = pr.map intv ++ [intv k] := by simp
          refine ⟨k + 1, ao', c', hlt, by first | rfl | simp, by rw [e0, e1], by rw [e0]; simp only [rowN, e1, e2]; exact hF⟩
        case measure => simp [intOf] <;> omega
      | false =>
        rw [hp] at hm
        go_wp2_with (first
          | go_skip
          | ((with_reducible (show Go.wpList _ _ _ (Go.Oper.mk _ (.load 9 _) _ _ _ _ :: _) _ _)); refine wpl_run rfl (w' := _) (v := .string ⟨xp.toArray⟩) (by simp only [execOp, Act.eval]; simp [f0.out _ hE.tail.tail]; rfl) ?_)
          | (go_at_call 66; refine (HP.out _ _ hE).mono ?_; clear hE; rintro e w3 ⟨v, rfl, rfl, hE⟩)
          | ((with_reducible (show Go.wpList _ _ _ (Go.Oper.mk _ (.load _ _) _ _ _ _ :: _) _ _)); (first | (refine wpl_load1 hE 0 rfl rfl rfl rfl (by simp [go_sem]) rfl ?_) | (refine wpl_load1 hE 1 rfl rfl rfl rfl (by simp [go_sem]) rfl ?_) | (refine wpl_load1 hE 2 rfl rfl rfl rfl (by simp [go_sem]) rfl ?_) | (refine wpl_load1 hE 3 rfl rfl rfl rfl (by simp [go_sem]) rfl ?_) | (refine wpl_load1 hE 4 rfl rfl rfl rfl (by simp [go_sem]) rfl ?_) | (refine wpl_load1 hE 5 rfl rfl rfl rfl (by simp [go_sem]) rfl ?_) | (refine wpl_load1 hE 6 rfl rfl rfl rfl (by simp [go_sem]) rfl ?_) | (refine wpl_load1 hE 7 rfl rfl rfl rfl (by simp [go_sem]) rfl ?_))))
        go_roundw
        case rel =>
          have e0 : kidsI (L.take (k + 1)) p = pr := by rw [Ht.out]; simp [Hq.out, hp]
          exact ⟨k + 1, ar, cr, hlt, by first | rfl | simp, by rw [e0], by rw [e0]; exact hE⟩
        case measure => simp [intOf] <;> omega
    · obtain rfl : k = L.length := by omega
      rw [List.take_length] at hE ⊢
      go_wp2_with (first
        | go_skip
        | ((with_reducible (show Go.wpList _ _ _ (Go.Oper.mk _ (.load _ _) _ _ _ _ :: _) _ _)); (first | (refine wpl_load1 hE 0 rfl rfl rfl rfl (by simp [go_sem]) rfl ?_) | (refine wpl_load1 hE 1 rfl rfl rfl rfl (by simp [go_sem]) rfl ?_) | (refine wpl_load1 hE 2 rfl rfl rfl rfl (by simp [go_sem]) rfl ?_) | (refine wpl_load1 hE 3 rfl rfl rfl rfl (by simp [go_sem]) rfl ?_) | (refine wpl_load1 hE 4 rfl rfl rfl rfl (by simp [go_sem]) rfl ?_) | (refine wpl_load1 hE 5 rfl rfl rfl rfl (by simp [go_sem]) rfl ?_) | (refine wpl_load1 hE 6 rfl rfl rfl rfl (by simp [go_sem]) rfl ?_) | (refine wpl_load1 hE 7 rfl rfl rfl rfl (by simp [go_sem]) rfl ?_))))
      refine bodyPost_ret (results_tmp rfl _ _ _) rfl ?_
      exact ⟨_, rfl, ar, cr, rfl, hE.erase 1⟩
end Go.Proofs.YtljfkejkohmimaaDoor
