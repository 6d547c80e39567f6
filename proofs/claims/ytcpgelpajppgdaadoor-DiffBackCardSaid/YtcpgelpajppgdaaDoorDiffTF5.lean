/-
  Changes read out of rows; the law's Of and Row. (Printed by gen_dql.py.)
-/
import Derived.Test.YtcpgelpajppgdaaDoorDiffTF4
namespace Go.Proofs.YtcpgelpajppgdaaDoor
open Go.RowKit Go.SL

/-- a change of a row, read whole and in part -/
theorem load_rc {b off c : Nat} {xs : List Ch} {w : World} (hr : reads (.slice (some ⟨b, off, none⟩) xs.length c) xs.length (xs.flatMap chC) w) {k : Nat} (hk : k < xs.length) :
    (Instr.loadAt 74 (.pointer (some ⟨b, off + k * 7, none⟩))).run Tryd.prog w = .ok (.agg (chC xs[k]).toArray) w ∧
    (Instr.loadAt 9 (.pointer (some ⟨b, off + k * 7, none⟩))).run Tryd.prog w = .ok (.string ⟨xs[k].path.toArray⟩) w ∧
    (Instr.loadAt 39 (.pointer (some ⟨b, off + k * 7 + 1, none⟩))).run Tryd.prog w = .ok (.agg (sdC xs[k].was).toArray) w ∧
    (Instr.loadAt 39 (.pointer (some ⟨b, off + k * 7 + 4, none⟩))).run Tryd.prog w = .ok (.agg (sdC xs[k].now).toArray) w := by
  obtain ⟨b', off', e, h⟩ := ch_at hr hk
  cases e
  refine ⟨atCells Tryd.isAgg74 Tryd.sizeOf74 (chC xs[k]) rfl (fun j v hv => by rw [Addr.add_lit]; exact h j v hv), atCell (h 0 _ rfl) (by simp [go_sem]), atCells Tryd.isAgg39 Tryd.sizeOf39 (sdC xs[k].was) rfl (fun j v hv => ?_), atCells Tryd.isAgg39 Tryd.sizeOf39 (sdC xs[k].now) rfl (fun j v hv => ?_)⟩
  · rw [Addr.add_lit, Nat.add_assoc]
    refine h (1 + j) v ?_
    match j, hv with
    | 0, hv => exact hv
    | 1, hv => exact hv
    | 2, hv => exact hv
  · rw [Addr.add_lit, Nat.add_assoc]
    refine h (4 + j) v ?_
    match j, hv with
    | 0, hv => exact hv
    | 1, hv => exact hv
    | 2, hv => exact hv
/-- a change of a row, read whole and in part -/
theorem load_dc {b off c : Nat} {xs : List Ch} {w : World} (hr : reads (.slice (some ⟨b, off, none⟩) xs.length c) xs.length (xs.flatMap chC) w) {k : Nat} (hk : k < xs.length) :
    (Instr.loadAt 65 (.pointer (some ⟨b, off + k * 7, none⟩))).run Tryd.prog w = .ok (.agg (chC xs[k]).toArray) w ∧
    (Instr.loadAt 9 (.pointer (some ⟨b, off + k * 7, none⟩))).run Tryd.prog w = .ok (.string ⟨xs[k].path.toArray⟩) w ∧
    (Instr.loadAt 36 (.pointer (some ⟨b, off + k * 7 + 1, none⟩))).run Tryd.prog w = .ok (.agg (sdC xs[k].was).toArray) w ∧
    (Instr.loadAt 36 (.pointer (some ⟨b, off + k * 7 + 4, none⟩))).run Tryd.prog w = .ok (.agg (sdC xs[k].now).toArray) w := by
  obtain ⟨b', off', e, h⟩ := ch_at hr hk
  cases e
  refine ⟨atCells Tryd.isAgg65 Tryd.sizeOf65 (chC xs[k]) rfl (fun j v hv => by rw [Addr.add_lit]; exact h j v hv), atCell (h 0 _ rfl) (by simp [go_sem]), atCells Tryd.isAgg36 Tryd.sizeOf36 (sdC xs[k].was) rfl (fun j v hv => ?_), atCells Tryd.isAgg36 Tryd.sizeOf36 (sdC xs[k].now) rfl (fun j v hv => ?_)⟩
  · rw [Addr.add_lit, Nat.add_assoc]
    refine h (1 + j) v ?_
    match j, hv with
    | 0, hv => exact hv
    | 1, hv => exact hv
    | 2, hv => exact hv
  · rw [Addr.add_lit, Nat.add_assoc]
    refine h (4 + j) v ?_
    match j, hv with
    | 0, hv => exact hv
    | 1, hv => exact hv
    | 2, hv => exact hv
def LoRel (es : List Ch) (l : List HProp) (o i : Value) (wr : World) : Prop :=
  ∃ (k : Nat) (ao : Option Addr) (c : Nat) (out : List Ch), k ≤ es.length ∧ i = .int .i64 k ∧ out = es.take k ∧ o = .slice ao out.length c ∧ Ent (rowCh ao c out :: l) wr
set_option maxRecDepth 100000 in
set_option maxHeartbeats 4000000 in
attribute [-go_sem] Instr.loadAt in
theorem lOf_any {es : List Ch} (hn : es.length ≤ 100000) {ao : Option Addr} {c : Nat} {l : List HProp} {w : World} (hk : Knows l (reads (.slice ao es.length c) es.length (es.flatMap chC))) (hE : Ent l w) :
    Calls Tryd.prog 12 #[.slice ao es.length c] w (Ret fun v w' => ∃ ao' c', v = .slice ao' es.length c' ∧ Ent (rowCh ao' c' es :: l) w') := by
  go_enter Tryd.func12, Tryd.ntmps12
  go_wp2
  go_loopw [3, 4] (fun o i wr => LoRel es l o i wr) (fun _ i _ => es.length - (intOf i).toNat)
  case atStart => exact ⟨0, none, 0, [], Nat.zero_le _, rfl, rfl, rfl, hE.nil _ _⟩
  case round =>
    clear hE
    obtain ⟨k, a1, c1, out, hkl, rfl, hout, rfl, hE⟩ := hrel
    have hol : out.length ≤ 100000 := by
      rw [hout, List.length_take]
      omega
    by_cases hlt : k < es.length
    · obtain ⟨b, off, rfl, hz⟩ := ch_at (hk _ hE.tail) hlt
      clear hz
      have f0 := SL.hid (show ∀ w, Ent l w → _ from fun w h => load_rc (hk w h) hlt)
      have Hst := SL.hid (List.take_succ_eq_append_getElem hlt)
      rw [← hout] at Hst
      clear hout
      generalize es[k] = x at *
      obtain ⟨xp, ⟨st, sd, sb⟩, ⟨ut, ud, ub⟩⟩ := x
      simp only [chC, sdC] at f0
      have HA := SL.hid (fun (L : List HProp) (w : World) (h : Ent L w) => lside_any ⟨st, sd, sb⟩ h)
      have HB := SL.hid (fun (L : List HProp) (w : World) (h : Ent L w) => lside_any ⟨ut, ud, ub⟩ h)
      simp only [sdV] at HA HB
      go_wp2
      have hO := hE.drew
      refine wp_region_held_drew (S := (fun w' => ((Instr.loadAt 9 (.pointer (some ⟨b, off + k * 7, none⟩))).run Tryd.prog w' = .ok (.string ⟨xp.toArray⟩) w') ∧ ((Instr.loadAt 39 (.pointer (some ⟨b, off + k * 7 + 1, none⟩))).run Tryd.prog w' = .ok (.agg #[.bool st, .bool sd, .string ⟨sb.toArray⟩]) w') ∧ ((Instr.loadAt 39 (.pointer (some ⟨b, off + k * 7 + 4, none⟩))).run Tryd.prog w' = .ok (.agg #[.bool ut, .bool ud, .string ⟨ub.toArray⟩]) w'))) (by kernel_rfl) ⟨(f0.out _ (hO.suf sfx)).2.1, (f0.out _ (hO.suf sfx)).2.2.1, (f0.out _ (hO.suf sfx)).2.2.2⟩ (fun hS => ?_)
      refine takeW 0 ⟨some 11, .move (.tmp 3), _, _, _, none⟩ ?_ (.inl ⟨by rfl, ?_⟩) hS ?_; rotate_left; · (intro _ _; go_simp; (try with_reducible rfl))
      try simp only [Act.put, sb, s0, sz]
      refine takeW 1 ⟨some 12, .move (.tmp 0), _, _, _, none⟩ ?_ (.inl ⟨by rfl, ?_⟩) hS ?_; rotate_left; · (intro _ _; go_simp; (try with_reducible rfl))
      try simp only [Act.put, sb, s0, sz]
      refine takeW 2 ⟨some 13, .move (.tmp 4), _, _, _, none⟩ ?_ (.inl ⟨by rfl, ?_⟩) hS ?_; rotate_left; · (intro _ _; go_simp; (try with_reducible rfl))
      try simp only [Act.put, sb, s0, sz]
      refine takeW 3 ⟨some 14, .indexAddr 33 (.tmp 12) (.tmp 13), _, _, _, none⟩ ?_ (.inl ⟨by rfl, ?_⟩) hS ?_; rotate_left; · (intro _ _; go_simp; (try with_reducible rfl))
      try simp only [Act.put, sb, s0, sz]
      refine takeW 4 ⟨some 15, .fieldAddr 74 (.tmp 14) 0, _, _, _, none⟩ ?_ (.inl ⟨by rfl, ?_⟩) hS ?_; rotate_left; · (intro _ _; go_simp; (try with_reducible rfl))
      try simp only [Act.put, sb, s0, sz]
      refine takeW 5 ⟨some 16, .load 9 (.tmp 15), _, _, _, none⟩ ?_ (.inl ⟨by rfl, ?_⟩) hS ?_; rotate_left; · (intro w hSw; (try dsimp only at hSw); go_simp; (try with_reducible rfl))
      try simp only [Act.put, sb, s0, sz]
      refine takeW 6 ⟨some 17, .move (.tmp 0), _, _, _, none⟩ ?_ (.inl ⟨by rfl, ?_⟩) hS ?_; rotate_left; · (intro _ _; go_simp; (try with_reducible rfl))
      try simp only [Act.put, sb, s0, sz]
      refine takeW 7 ⟨some 18, .move (.tmp 4), _, _, _, none⟩ ?_ (.inl ⟨by rfl, ?_⟩) hS ?_; rotate_left; · (intro _ _; go_simp; (try with_reducible rfl))
      try simp only [Act.put, sb, s0, sz]
      refine takeW 8 ⟨some 19, .indexAddr 33 (.tmp 17) (.tmp 18), _, _, _, none⟩ ?_ (.inl ⟨by rfl, ?_⟩) hS ?_; rotate_left; · (intro _ _; go_simp; (try with_reducible rfl))
      try simp only [Act.put, sb, s0, sz]
      refine takeW 9 ⟨some 20, .fieldAddr 74 (.tmp 19) 1, _, _, _, none⟩ ?_ (.inl ⟨by rfl, ?_⟩) hS ?_; rotate_left; · (intro _ _; go_simp; (try with_reducible rfl))
      try simp only [Act.put, sb, s0, sz]
      refine takeW 10 ⟨some 21, .load 39 (.tmp 20), _, _, _, none⟩ ?_ (.inl ⟨by rfl, ?_⟩) hS ?_; rotate_left; · (intro w hSw; (try dsimp only at hSw); go_simp; (try with_reducible rfl))
      try simp only [Act.put, sb, s0, sz]
      refine takeW 12 ⟨some 23, .move (.tmp 0), _, _, _, none⟩ ?_ (.inl ⟨by rfl, ?_⟩) hS ?_; rotate_left; · (intro _ _; go_simp; (try with_reducible rfl))
      try simp only [Act.put, sb, s0, sz]
      refine takeW 13 ⟨some 24, .move (.tmp 4), _, _, _, none⟩ ?_ (.inl ⟨by rfl, ?_⟩) hS ?_; rotate_left; · (intro _ _; go_simp; (try with_reducible rfl))
      try simp only [Act.put, sb, s0, sz]
      refine takeW 14 ⟨some 25, .indexAddr 33 (.tmp 23) (.tmp 24), _, _, _, none⟩ ?_ (.inl ⟨by rfl, ?_⟩) hS ?_; rotate_left; · (intro _ _; go_simp; (try with_reducible rfl))
      try simp only [Act.put, sb, s0, sz]
      refine takeW 15 ⟨some 26, .fieldAddr 74 (.tmp 25) 2, _, _, _, none⟩ ?_ (.inl ⟨by rfl, ?_⟩) hS ?_; rotate_left; · (intro _ _; go_simp; (try with_reducible rfl))
      try simp only [Act.put, sb, s0, sz]
      refine takeW 16 ⟨some 27, .load 39 (.tmp 26), _, _, _, none⟩ ?_ (.inl ⟨by rfl, ?_⟩) hS ?_; rotate_left; · (intro w hSw; (try dsimp only at hSw); go_simp; (try with_reducible rfl))
      try simp only [Act.put, sb, s0, sz]
      refine wpAnyH_ready (rs := [11]) (by kernel_rfl) (by simp) ?_
      refine (AllReadyH.cons (o := ⟨some 22, .call { callee := .value (.func 15), args := #[.tmp 21], argTypes := #[39] }, _, _, _, none⟩) rfl (fun K hK => ?_) AllReadyH.nil)
      (go_simp; refine (HA.out _ _ hO).mono ?_; clear hO; rintro e w5 ⟨v, h1, h2, hO⟩; cases h1; cases h2)
      refine hK.out _ _ ⟨(f0.out _ (hO.suf sfx)).2.1, (f0.out _ (hO.suf sfx)).2.2.1, (f0.out _ (hO.suf sfx)).2.2.2⟩ (fun hS => ?_)
      clear hK K
      try simp only [Act.put, sb, s0, sz]
      refine wpAnyH_ready (rs := [17]) (by kernel_rfl) (by simp) ?_
      refine (AllReadyH.cons (o := ⟨some 28, .call { callee := .value (.func 15), args := #[.tmp 27], argTypes := #[39] }, _, _, _, none⟩) rfl (fun K hK => ?_) AllReadyH.nil)
      (go_simp; refine (HB.out _ _ hO).mono ?_; clear hO; rintro e w5 ⟨v, h1, h2, hO⟩; cases h1; cases h2)
      refine hK.out _ _ ⟨(f0.out _ (hO.suf sfx)).2.1, (f0.out _ (hO.suf sfx)).2.2.1, (f0.out _ (hO.suf sfx)).2.2.2⟩ (fun hS => ?_)
      clear hK K
      try simp only [Act.put, sb, s0, sz]
      refine takeW 18 ⟨some 29, .build 65 #[(0, .tmp 16), (1, .tmp 22), (2, .tmp 28)], _, _, _, none⟩ ?_ (.inl ⟨by rfl, ?_⟩) hS ?_; rotate_left; · (intro _ _; go_simp; (try with_reducible rfl))
      try simp only [Act.put, sb, s0, sz]
      refine wpAnyH_ready (rs := [19]) (by kernel_rfl) (by simp) ?_
      refine (AllReadyH.cons (o := ⟨some 30, .buildSlice 30 1 #[(0, .tmp 29)], _, _, _, none⟩) rfl (fun K hK => ?_) AllReadyH.nil)
      (refine step_build1 hO rfl (by rfl) (xs := chC ⟨xp, ⟨st, sd, sb⟩, ⟨ut, ud, ub⟩⟩) (by rfl) Tryd.underlying30 zs_ch Tryd.sizeOf65 (by decide) (by decide) rfl ?_; clear hO; intro b9 w7 hO)
      refine hK.out _ _ ⟨(f0.out _ (hO.suf sfx)).2.1, (f0.out _ (hO.suf sfx)).2.2.1, (f0.out _ (hO.suf sfx)).2.2.2⟩ (fun hS => ?_)
      clear hK K
      try simp only [Act.put, sb, s0, sz]
      refine wpAnyH_ready (rs := [20]) (by kernel_rfl) (by simp) ?_
      refine (AllReadyH.cons (o := ⟨some 31, .call { callee := .builtin .append, args := #[.tmp 11, .tmp 30], argTypes := #[30, 30] }, _, _, _, none⟩) rfl (fun K hK => ?_) AllReadyH.nil)
      (refine step_appendG hO 1 rfl rfl (by rfl) (by rfl) (by rfl) Tryd.underlying30 info_ch (by decide) (m := 1) (news := chC ⟨xp, ⟨st, sd, sb⟩, ⟨ut, ud, ub⟩⟩) (reads_pt hO 0 rfl (off := 0) (fun j u hu => by rw [Nat.zero_add, List.getElem?_toArray]; exact hu)) rfl (chC_one _) (by omega) (by omega) ?_; clear hO; intro a7 c7 w8 hO; simp only [List.set_cons_zero, List.set_cons_succ] at hO)
      refine hK.out _ _ ⟨(f0.out _ (hO.suf sfx)).2.1, (f0.out _ (hO.suf sfx)).2.2.1, (f0.out _ (hO.suf sfx)).2.2.2⟩ (fun hS => ?_)
      clear hK K
      try simp only [Act.put, sb, s0, sz]
      refine takeW 21 ⟨some 3, .assign (.tmp 31), _, _, _, none⟩ ?_ (.inl ⟨by rfl, ?_⟩) hS ?_; rotate_left; · (intro _ _; go_simp; (try with_reducible rfl))
      try simp only [Act.put, sb, s0, sz]
      refine wpAnyH_done (by kernel_rfl) ?_ _
      all_goals
        clear hS hE
        have hE := hO.tail
        clear hO
        go_wp2
        go_roundw
        case rel =>
          refine ⟨k + 1, a7, c7, out ++ [⟨xp, ⟨st, sd, sb⟩, ⟨ut, ud, ub⟩⟩], hlt, by first | rfl | simp, by rw [Hst.out], by simp, ?_⟩
          rw [← rowCh_add]
          exact hE
        case measure => simp [intOf] <;> omega
    · obtain rfl : k = es.length := by omega
      rw [List.take_length] at hout
      subst hout
      go_wp2
      go_ret
      exact ⟨_, rfl, a1, c1, rfl, hE⟩
def LrRel (xs ys : List Ch) (l : List HProp) (i : Value) (wr : World) : Prop :=
  ∃ k : Nat, k ≤ xs.length ∧ i = .int .i64 k ∧ xs.take k = ys.take k ∧ Ent l wr
def LrPost (xs ys : List Ch) (l : List HProp) (v : Value) (w' : World) : Prop := v = .bool (decide (xs = ys)) ∧ Ent l w'
theorem LrPost.mk {xs ys : List Ch} {l : List HProp} {w : World} (b : Bool) (hE : Ent l w) (h : b = true ↔ xs = ys) : LrPost xs ys l (.bool b) w := ⟨by rw [show decide (xs = ys) = b by rw [Bool.eq_iff_iff]; simp [h]], hE⟩
set_option maxRecDepth 100000 in
set_option maxHeartbeats 4000000 in
attribute [-go_sem] Instr.loadAt Go.run_equalIn_agg in
theorem lRow_any {xs ys : List Ch} (hn : xs.length ≤ 1000000) {ao bo : Option Addr} {c d : Nat} {l : List HProp} {w : World} (hx : Knows l (reads (.slice ao xs.length c) xs.length (xs.flatMap chC))) (hy : Knows l (reads (.slice bo ys.length d) ys.length (ys.flatMap chC))) (hE : Ent l w) :
    Calls Tryd.prog 10 #[.slice ao xs.length c, .slice bo ys.length d] w (Ret (LrPost xs ys l)) := by
  by_cases hl : xs.length = ys.length
  · have Hl := SL.hid hl
    obtain ⟨n, hn1⟩ : ∃ n, xs.length = n := ⟨_, rfl⟩
    have hn2 : ys.length = n := by omega
    rw [hn1] at hn ⊢
    rw [hn2]
    have N1 := SL.hid hn1
    have N2 := SL.hid hn2
    clear hn1 hn2 hl
    go_enter Tryd.func10, Tryd.ntmps10
    go_wp2
    go_loopw [5] (fun i wr => LrRel xs ys l i wr) (fun i _ => n - (intOf i).toNat)
    case atStart => exact ⟨0, Nat.zero_le _, rfl, rfl, hE⟩
    case round =>
      clear hE
      obtain ⟨k, hkl, rfl, htk, hE⟩ := hrel
      rw [N1.out] at hkl
      by_cases hlt : k < n
      · have hlx : k < xs.length := by have := N1.out; omega
        have hly : k < ys.length := by have := N2.out; omega
        obtain ⟨b, off, rfl, hz⟩ := ch_at (hx _ hE) hlx
        obtain ⟨b2, off2, rfl, hz2⟩ := ch_at (hy _ hE) hly
        clear hz hz2
        have f0 := SL.hid (show ∀ w, Ent l w → _ from fun w h => (load_dc (hx w h) hlx).1)
        have f1 := SL.hid (show ∀ w, Ent l w → _ from fun w h => (load_dc (hy w h) hly).1)
        have Hx := SL.hid (List.take_succ_eq_append_getElem hlx)
        have Hy := SL.hid (List.take_succ_eq_append_getElem hly)
        have Hne := SL.hid (show xs[k] ≠ ys[k] → xs ≠ ys from fun h e => h (by subst e; rfl))
        have hEq := fun w => eqCh xs[k] ys[k] w
        have Htk := SL.hid htk
        clear htk
        generalize xs[k] = x at *
        generalize ys[k] = y at *
        have Hxy := SL.hid (show (x == y) = true ↔ x = y from beq_iff_eq)
        generalize (x == y) = eq at *
        clear hlx hly
        cases eq with
        | true =>
          go_wp2
          refine wp_region_held_drew (S := (fun w' => ((Instr.loadAt 65 (.pointer (some ⟨b, off + k * 7, none⟩))).run Tryd.prog w' = .ok (.agg (chC x).toArray) w') ∧ ((Instr.loadAt 65 (.pointer (some ⟨b2, off2 + k * 7, none⟩))).run Tryd.prog w' = .ok (.agg (chC y).toArray) w'))) (by kernel_rfl) ⟨(f0.out _ hE.drew), (f1.out _ hE.drew)⟩ (fun hS => ?_)
          refine takeW 0 ⟨some 17, .move (.tmp 0), _, _, _, none⟩ ?_ (.inl ⟨by rfl, ?_⟩) hS ?_; rotate_left; · (intro _ _; go_simp; (try with_reducible rfl))
          try simp only [Act.put, sb, s0, sz]
          refine takeW 1 ⟨some 18, .move (.tmp 5), _, _, _, none⟩ ?_ (.inl ⟨by rfl, ?_⟩) hS ?_; rotate_left; · (intro _ _; go_simp; (try with_reducible rfl))
          try simp only [Act.put, sb, s0, sz]
          refine takeW 2 ⟨some 19, .indexAddr 30 (.tmp 17) (.tmp 18), _, _, _, none⟩ ?_ (.inl ⟨by rfl, ?_⟩) hS ?_; rotate_left; · (intro _ _; go_simp; (try with_reducible rfl))
          try simp only [Act.put, sb, s0, sz]
          refine takeW 3 ⟨some 20, .load 65 (.tmp 19), _, _, _, none⟩ ?_ (.inl ⟨by rfl, ?_⟩) hS ?_; rotate_left; · (intro w hSw; (try dsimp only at hSw); go_simp; (try with_reducible rfl))
          try simp only [Act.put, sb, s0, sz]
          refine takeW 4 ⟨some 21, .move (.tmp 1), _, _, _, none⟩ ?_ (.inl ⟨by rfl, ?_⟩) hS ?_; rotate_left; · (intro _ _; go_simp; (try with_reducible rfl))
          try simp only [Act.put, sb, s0, sz]
          refine takeW 5 ⟨some 22, .move (.tmp 5), _, _, _, none⟩ ?_ (.inl ⟨by rfl, ?_⟩) hS ?_; rotate_left; · (intro _ _; go_simp; (try with_reducible rfl))
          try simp only [Act.put, sb, s0, sz]
          refine takeW 6 ⟨some 23, .indexAddr 30 (.tmp 21) (.tmp 22), _, _, _, none⟩ ?_ (.inl ⟨by rfl, ?_⟩) hS ?_; rotate_left; · (intro _ _; go_simp; (try with_reducible rfl))
          try simp only [Act.put, sb, s0, sz]
          refine takeW 7 ⟨some 24, .load 65 (.tmp 23), _, _, _, none⟩ ?_ (.inl ⟨by rfl, ?_⟩) hS ?_; rotate_left; · (intro w hSw; (try dsimp only at hSw); go_simp; (try with_reducible rfl))
          try simp only [Act.put, sb, s0, sz]
          refine takeW 8 ⟨some 25, .binOp .neq 65 (.tmp 20) (.tmp 24) 65, _, _, _, none⟩ ?_ (.inl ⟨by rfl, ?_⟩) hS ?_; rotate_left; · (intro _ _; go_simp; (try with_reducible rfl))
          try simp only [Act.put, sb, s0, sz]
          refine wpAnyH_done (by kernel_rfl) ?_ _
          all_goals
            clear hS
            replace hE := hE.drew
            go_wp2
            go_roundw
            case rel => exact ⟨k + 1, by rw [N1.out]; exact hlt, by first | rfl | simp, by rw [Hx.out, Hy.out, Htk.out]; have := Hxy.out; simp at this; rw [this], hE⟩
            case measure => simp [intOf] <;> omega
        | false =>
          go_wp2
          refine wp_region_held_drew (S := (fun w' => ((Instr.loadAt 65 (.pointer (some ⟨b, off + k * 7, none⟩))).run Tryd.prog w' = .ok (.agg (chC x).toArray) w') ∧ ((Instr.loadAt 65 (.pointer (some ⟨b2, off2 + k * 7, none⟩))).run Tryd.prog w' = .ok (.agg (chC y).toArray) w'))) (by kernel_rfl) ⟨(f0.out _ hE.drew), (f1.out _ hE.drew)⟩ (fun hS => ?_)
          refine takeW 0 ⟨some 17, .move (.tmp 0), _, _, _, none⟩ ?_ (.inl ⟨by rfl, ?_⟩) hS ?_; rotate_left; · (intro _ _; go_simp; (try with_reducible rfl))
          try simp only [Act.put, sb, s0, sz]
          refine takeW 1 ⟨some 18, .move (.tmp 5), _, _, _, none⟩ ?_ (.inl ⟨by rfl, ?_⟩) hS ?_; rotate_left; · (intro _ _; go_simp; (try with_reducible rfl))
          try simp only [Act.put, sb, s0, sz]
          refine takeW 2 ⟨some 19, .indexAddr 30 (.tmp 17) (.tmp 18), _, _, _, none⟩ ?_ (.inl ⟨by rfl, ?_⟩) hS ?_; rotate_left; · (intro _ _; go_simp; (try with_reducible rfl))
          try simp only [Act.put, sb, s0, sz]
          refine takeW 3 ⟨some 20, .load 65 (.tmp 19), _, _, _, none⟩ ?_ (.inl ⟨by rfl, ?_⟩) hS ?_; rotate_left; · (intro w hSw; (try dsimp only at hSw); go_simp; (try with_reducible rfl))
          try simp only [Act.put, sb, s0, sz]
          refine takeW 4 ⟨some 21, .move (.tmp 1), _, _, _, none⟩ ?_ (.inl ⟨by rfl, ?_⟩) hS ?_; rotate_left; · (intro _ _; go_simp; (try with_reducible rfl))
          try simp only [Act.put, sb, s0, sz]
          refine takeW 5 ⟨some 22, .move (.tmp 5), _, _, _, none⟩ ?_ (.inl ⟨by rfl, ?_⟩) hS ?_; rotate_left; · (intro _ _; go_simp; (try with_reducible rfl))
          try simp only [Act.put, sb, s0, sz]
          refine takeW 6 ⟨some 23, .indexAddr 30 (.tmp 21) (.tmp 22), _, _, _, none⟩ ?_ (.inl ⟨by rfl, ?_⟩) hS ?_; rotate_left; · (intro _ _; go_simp; (try with_reducible rfl))
          try simp only [Act.put, sb, s0, sz]
          refine takeW 7 ⟨some 24, .load 65 (.tmp 23), _, _, _, none⟩ ?_ (.inl ⟨by rfl, ?_⟩) hS ?_; rotate_left; · (intro w hSw; (try dsimp only at hSw); go_simp; (try with_reducible rfl))
          try simp only [Act.put, sb, s0, sz]
          refine takeW 8 ⟨some 25, .binOp .neq 65 (.tmp 20) (.tmp 24) 65, _, _, _, none⟩ ?_ (.inl ⟨by rfl, ?_⟩) hS ?_; rotate_left; · (intro _ _; go_simp; (try with_reducible rfl))
          try simp only [Act.put, sb, s0, sz]
          refine wpAnyH_done (by kernel_rfl) ?_ _
          all_goals
            clear hS
            replace hE := hE.drew
            go_wp2
            refine bodyPost_ret (results_tmp rfl _ _ _) rfl ?_
            exact ⟨_, rfl, .mk false hE (iff_of_false (by decide) (Hne.out (fun e => by have := Hxy.out.2 e; cases this)))⟩
      · obtain rfl : k = n := by omega
        have htk2 : xs = ys := by
          have h1 := N1.out
          have h2 := N2.out
          rwa [List.take_of_length_le (by omega), List.take_of_length_le (by omega)] at htk
        have R := SL.hid htk2
        clear htk htk2
        go_wp2
        refine bodyPost_ret (results_tmp rfl _ _ _) rfl ?_
        exact ⟨_, rfl, .mk true hE (iff_of_true rfl R.out)⟩
  · have R := SL.hid (show xs ≠ ys from fun e => hl (by rw [e]))
    have h1 : ¬ (xs.length : Int) = (ys.length : Int) := by omega
    go_enter Tryd.func10, Tryd.ntmps10
    go_wp2
    refine bodyPost_ret (results_tmp rfl _ _ _) rfl ?_
    exact ⟨_, rfl, .mk false hE (iff_of_false (by decide) R.out)⟩
end Go.Proofs.YtcpgelpajppgdaaDoor
namespace Go.Proofs.YtcpgelpajppgdaaDoor
open Go.RowKit Go.SL

def goodC (x : Ch) : Bool := splitE x.path == 0 && (!(splitL x.path).isEmpty && (!(x.was == x.now) && (maySd x.was && maySd x.now)))
def mayR (c : List Ch) : Prop := mayC c = true ∧ RiseP (c.map Ch.path)
open Classical in
noncomputable def mayB (c : List Ch) : Bool := decide (mayR c)
theorem mayR_nil : mayR [] := ⟨rfl, List.Pairwise.nil⟩
theorem mayR_take {c : List Ch} (h : mayR c) (m : Nat) : mayR (c.take m) := by
  refine ⟨List.all_eq_true.2 fun x hx => List.all_eq_true.1 h.1 x (List.mem_of_mem_take hx), ?_⟩
  rw [List.map_take]
  exact h.2.sublist (List.take_sublist _ _)
theorem mayR_snoc {pre : List Ch} {x : Ch} : mayR (pre ++ [x]) ↔ mayR pre ∧ goodC x = true ∧ ∀ y, pre.getLast? = some y → lessP y.path x.path = true := by
  constructor
  · rintro ⟨h1, h2⟩
    rw [RiseP, List.map_append, List.pairwise_append] at h2
    refine ⟨⟨List.all_eq_true.2 fun z hz => List.all_eq_true.1 h1 z (by simp [hz]), h2.1⟩, List.all_eq_true.1 h1 x (by simp), fun y hy => h2.2.2 _ (List.mem_map_of_mem (List.mem_of_getLast? hy)) _ (by simp)⟩
  · rintro ⟨⟨h1, h2⟩, h3, h4⟩
    refine ⟨List.all_eq_true.2 fun z hz => ?_, ?_⟩
    · rcases List.mem_append.1 hz with h | h
      · exact List.all_eq_true.1 h1 z h
      · rw [List.mem_singleton.1 h]; exact h3
    · rw [RiseP, List.map_append, List.pairwise_append]
      refine ⟨h2, by simp, fun a ha b hb => ?_⟩
      obtain rfl : b = x.path := by simpa using hb
      obtain ⟨z, hz, rfl⟩ := List.mem_map.1 ha
      cases hl : pre.getLast? with
      | none => rw [List.getLast?_eq_none_iff.1 hl] at hz; cases hz
      | some y =>
        obtain ⟨q, rfl⟩ := List.getLast?_eq_some_iff.1 hl
        have h5 := h4 y hl
        rcases List.mem_append.1 hz with h | h
        · rw [RiseP, List.map_append, List.pairwise_append] at h2
          exact lessP_trans (h2.2.2 _ (List.mem_map_of_mem h) y.path (by simp)) h5
        · rw [List.mem_singleton.1 h]; exact h5
theorem split_none {p : List UInt8} (h : splitE p = 0) : (splitL p).isEmpty = (p == []) := by
  unfold splitE at h
  unfold splitL
  by_cases h0 : p = []
  · subst h0; rfl
  · rw [if_neg h0] at h ⊢
    rw [beq_eq_false_iff_ne.2 h0]
    split at h
    · next h1 =>
      rw [if_pos h1]
      split at h
      · next h2 =>
        rw [if_pos h2]
        cases hc : cuts p with
        | nil => exact absurd hc (cuts_ne p)
        | cons a r => rfl
      · cases h
    · cases h
theorem mayR_at {es : List Ch} {k : Nat} (h : k < es.length) (hp : mayR (es.take k)) : (mayR (es.take (k + 1)) ↔ goodC es[k] = true ∧ ∀ y, (es.take k).getLast? = some y → lessP y.path es[k].path = true) ∧ (mayR es → goodC es[k] = true ∧ ∀ y, (es.take k).getLast? = some y → lessP y.path es[k].path = true) := by
  have e := List.take_succ_eq_append_getElem h
  have a1 : mayR (es.take (k + 1)) ↔ goodC es[k] = true ∧ ∀ y, (es.take k).getLast? = some y → lessP y.path es[k].path = true := by
    rw [e, mayR_snoc]
    exact ⟨fun h => h.2, fun h => ⟨hp, h⟩⟩
  exact ⟨a1, fun h => a1.1 (mayR_take h _)⟩
theorem last_take {es : List Ch} {j : Nat} (h : j + 1 < es.length) : (es.take (j + 1)).getLast? = some es[j] := by
  rw [List.take_succ_eq_append_getElem (by omega), List.getLast?_append]
  simp
def MPost (es : List Ch) (l : List HProp) (v : Value) (w' : World) : Prop := v = .bool (mayB es) ∧ Ent l w'
open Classical in
theorem MPost.mk {es : List Ch} {l : List HProp} {w : World} (b : Bool) (hE : Ent l w) (h : b = true ↔ mayR es) : MPost es l (.bool b) w := ⟨by rw [show mayB es = b by rw [mayB, Bool.eq_iff_iff]; simp [h]], hE⟩
def MyRel (es : List Ch) (l : List HProp) (i : Value) (wr : World) : Prop :=
  ∃ k : Nat, k ≤ es.length ∧ i = .int .i64 k ∧ mayR (es.take k) ∧ Ent l wr
end Go.Proofs.YtcpgelpajppgdaaDoor
namespace Go.Proofs.YtcpgelpajppgdaaDoor
open Go.RowKit Go.SL

def fitsB : Option Ch → Option Ch → Bool
  | some x, some y => x.now == y.was
  | _, _ => true
def pairsC (l m : List Ch) : List (Option Ch × Option Ch) := (sortK (l.map Ch.path ++ m.map Ch.path)).map (pairAt Ch.path Ch.path l m)
noncomputable def cmpP (l m : List Ch) : List Ch := if (mayB l && mayB m) = true then (if (pairsC l m).all (fun p => fitsB p.1 p.2) = true then (pairsC l m).filterMap (fun p => compO p.1 p.2) else []) else []
noncomputable def cmpE (l m : List Ch) : Int := if (mayB l && mayB m) = true then (if (pairsC l m).all (fun p => fitsB p.1 p.2) = true then 0 else 10) else 3
def CmPost (row : Option Addr → Nat → List Ch → HProp) (xs : List Ch) (er : Int) (l : List HProp) (v : Value) (w' : World) : Prop := ∃ ao c m, v = .tuple #[.slice ao xs.length c, .int .i64 er] ∧ Ent (row ao c xs :: (m ++ l)) w'
theorem findI_cases (l : List Ch) (p : List UInt8) : (l.find? (fun c => c.path == p) = none ∧ findI l p = -1) ∨ ∃ (i : Nat) (h : i < l.length), l.find? (fun c => c.path == p) = some l[i] ∧ findI l p = i := by
  unfold findI
  cases h : l.findIdx? (fun c => c.path == p) with
  | none =>
    rw [List.findIdx?_eq_none_iff] at h
    exact .inl ⟨List.find?_eq_none.2 (fun x hx => by rw [h x hx]; decide), rfl⟩
  | some i =>
    rw [List.findIdx?_eq_some_iff_getElem] at h
    obtain ⟨hi, h1, h2⟩ := h
    exact .inr ⟨i, hi, List.find?_eq_some_iff_getElem.2 ⟨h1, i, hi, rfl, fun j hj => by have := h2 j hj; simpa using this⟩, rfl⟩
theorem may_ne {es : List Ch} (h : mayB es = true) : ∀ x ∈ es, x.was ≠ x.now := by
  intro x hx
  have h : mayR es := by simpa [mayB] using h
  have := List.all_eq_true.1 h.1 x hx
  simp only [Bool.and_eq_true, Bool.not_eq_true'] at this
  exact beq_eq_false_iff_ne.1 this.2.2.1
theorem wpl_storeQ {P : Program} {ops : Array Oper} {rest : List Oper} {o : Oper} {a : Act} {Q : Exit → Act → World → Prop} {w : World} {l : List HProp} (hE : Ent l w) (i : Nat) {b : Nat} {xs xs' : List Value} {T : TypeId} (hi : l[i]? = some (pt b (.cells xs.toArray T (0, 0))))
    {t : TypeId} {x y : Operand} (ho : o.op = .store t x y) (hw : Region.wanted o (yielded ops a.tmps) = true)
    {off : Nat} (hx : a.eval x = .pointer (some ⟨b, off, none⟩)) {v : Value} (hy : a.eval y = v) {n : Nat} (hn : ∀ w, (Go.sizeOf t).run P w = .ok n w) (hc : v.cells.size = n)
    (h1 : ∀ u ∈ v.cells.toList, u.oneCell' = true) (hfit : off + n ≤ xs.length) (hres : xs.toArray.toList.take off ++ v.cells.toList ++ xs.toArray.toList.drop (off + v.cells.toList.length) = xs')
    (h : ∀ w', Ent (l.set i (pt b (.cells xs'.toArray T (0, 0)))) w' → wpList P ops Q rest (a.put o.dst undef) w') : wpList P ops Q (o :: rest) a w := by
  refine wpl_store hE i hi ho hw hx hy hn hc h1 (by simpa using hfit) fun w' hE' => h w' ?_
  rwa [hres] at hE'
def RcRel (all : List (List UInt8)) (F : List UInt8 → Option Ch) (G : List UInt8 → Bool) (LL : List HProp) (o i : Value) (wr : World) : Prop :=
  ∃ (k : Nat) (ao : Option Addr) (c : Nat) (out : List Ch), k ≤ all.length ∧ i = .int .i64 k ∧ out = (all.take k).filterMap F ∧ (∀ z ∈ all.take k, G z = true) ∧ o = .slice ao out.length c ∧ Ent (rowRc ao c out :: LL) wr
end Go.Proofs.YtcpgelpajppgdaaDoor
namespace Go.Proofs.YtcpgelpajppgdaaDoor
open Go.RowKit Go.SL

/-- a change that a pointer points to -/
theorem ptr_ch {L0 : List HProp} {x : Ch} {b off : Nat} (hx : ∀ w, Ent L0 w → ∀ j v, (chC x)[j]? = some v → w.cell? ⟨b, off + j, none⟩ = some v) {w : World} (hw : Ent L0 w) :
    (Instr.loadAt 65 (.pointer (some ⟨b, off, none⟩))).run Tryd.prog w = .ok (.agg (chC x).toArray) w ∧
    (Instr.loadAt 9 (.pointer (some ⟨b, off, none⟩))).run Tryd.prog w = .ok (.string ⟨x.path.toArray⟩) w ∧
    (Instr.loadAt 36 (.pointer (some ⟨b, off + 1, none⟩))).run Tryd.prog w = .ok (.agg (sdC x.was).toArray) w ∧
    (Instr.loadAt 36 (.pointer (some ⟨b, off + 4, none⟩))).run Tryd.prog w = .ok (.agg (sdC x.now).toArray) w ∧
    (Instr.loadAt 4 (.pointer (some ⟨b, off + 4, none⟩))).run Tryd.prog w = .ok (.bool x.now.there) w ∧
    (Instr.loadAt 4 (.pointer (some ⟨b, off + 4 + 1, none⟩))).run Tryd.prog w = .ok (.bool x.now.dir) w ∧
    (Instr.loadAt 9 (.pointer (some ⟨b, off + 4 + 2, none⟩))).run Tryd.prog w = .ok (.string ⟨x.now.data.toArray⟩) w := by
  have h := hx w hw
  refine ⟨atCells Tryd.isAgg65 Tryd.sizeOf65 (chC x) rfl (fun j v hv => by rw [Addr.add_lit]; exact h j v hv), atCell (by simpa using h 0 _ rfl) (by simp [go_sem]), atCells Tryd.isAgg36 Tryd.sizeOf36 (sdC x.was) rfl (fun j v hv => ?_), atCells Tryd.isAgg36 Tryd.sizeOf36 (sdC x.now) rfl (fun j v hv => ?_), atCell (h 4 _ rfl) (by simp [go_sem]), atCell (h 5 _ rfl) (by simp [go_sem]), atCell (h 6 _ rfl) (by simp [go_sem])⟩
  · rw [Addr.add_lit, Nat.add_assoc]
    refine h (1 + j) v ?_
    match j, hv with
    | 0, hv => exact hv
    | 1, hv => exact hv
    | 2, hv => exact hv
  · rw [Addr.add_lit, Nat.add_assoc]
    refine h (4 + j) v ?_
    match j, hv with
    | 0, hv => exact hv
    | 1, hv => exact hv
    | 2, hv => exact hv
def stepO (p : Option Ch × Option Ch) : Option Ch := if fitsB p.1 p.2 = true then compO p.1 p.2 else none
def boC (p1 p2 : Nat) (ao : Option Addr) (c : Nat) (out : List Ch) (ok : Bool) (L0 : List HProp) : List HProp := pt p1 (.cells #[.slice ao out.length c] 30) :: pt p2 (.cells #[.bool ok] 4) :: rowCh ao c out :: L0
def C1Post (p1 p2 : Nat) (out' : List Ch) (ok' : Bool) (L0 : List HProp) (w' : World) : Prop := ∃ ao c, Ent (boC p1 p2 ao c out' ok' L0) w'

set_option maxRecDepth 100000 in
set_option maxHeartbeats 4000000 in
attribute [-go_sem] Instr.loadAt Go.run_equalIn_agg in
theorem comp1_x {L0 : List HProp} {x : Ch} {bx ox : Nat} (hx : ∀ w, Ent L0 w → ∀ j v, (chC x)[j]? = some v → w.cell? ⟨bx, ox + j, none⟩ = some v) {p1 p2 : Nat} {ao : Option Addr} {c : Nat} {out : List Ch} {ok : Bool} (hn : out.length ≤ 1000000) {w : World} (hE : Ent (boC p1 p2 ao c out ok L0) w) :
    Calls Tryd.prog 55 #[.pointer (some ⟨bx, ox, none⟩), .pointer none, .pointer (some ⟨p1, 0, none⟩), .pointer (some ⟨p2, 0, none⟩)] w (Ret fun _ w' => C1Post p1 p2 (out ++ [x]) ok L0 w') := by
  unfold boC at hE
  have HX := SL.hid (fun (w : World) (h : Ent L0 w) => ptr_ch hx h)
  clear hx
  go_enter Tryd.func55, Tryd.ntmps55
  go_wp2
  have hO := hE.drew
  refine wp_region_held_drew (S := (fun w' => ((Instr.loadAt 65 (.pointer (some ⟨bx, ox, none⟩))).run Tryd.prog w' = .ok (.agg (chC x).toArray) w'))) (by kernel_rfl) (HX.out _ (hO.suf sfx)).1 (fun hS => ?_)
  refine takeW 1 ⟨some 10, .move (.tmp 0), _, _, _, none⟩ ?_ (.inl ⟨by rfl, ?_⟩) hS ?_; rotate_left; · (intro _ _; go_simp; (try with_reducible rfl))
  try simp only [Act.put, sb, s0, sz]
  refine takeW 2 ⟨some 11, .nilCheck (.tmp 10), _, _, _, none⟩ ?_ (.inl ⟨by rfl, ?_⟩) hS ?_; rotate_left; · (intro _ _; go_simp; (try with_reducible rfl))
  try simp only [Act.put, sb, s0, sz]
  refine takeW 3 ⟨some 12, .load 65 (.tmp 11), _, _, _, none⟩ ?_ (.inl ⟨by rfl, ?_⟩) hS ?_; rotate_left; · (intro w hSw; (try dsimp only at hSw); go_simp; (try with_reducible rfl))
  try simp only [Act.put, sb, s0, sz]
  refine wpAnyH_ready (rs := [0, 4]) (by kernel_rfl) (by simp) ?_
  refine (AllReadyH.cons (o := ⟨some 9, .load 30 (.tmp 2), _, _, _, none⟩) rfl (fun K hK => ?_) (AllReadyH.cons (o := ⟨some 13, .buildSlice 30 1 #[(0, .tmp 12)], _, _, _, none⟩) rfl (fun K hK => ?_) AllReadyH.nil))
  focus
    (first | (refine step_load1 hO 0 rfl (by rfl) (by rfl) (by rfl) (by simp [go_sem]) rfl ?_) | (refine step_load1 hO 1 rfl (by rfl) (by rfl) (by rfl) (by simp [go_sem]) rfl ?_))
    refine hK.out _ _ (HX.out _ (hO.suf sfx)).1 (fun hS => ?_)
    clear hK K
    try simp only [Act.put, sb, s0, sz]
    refine wpAnyH_ready (rs := [4]) (by kernel_rfl) (by simp) ?_
    refine (AllReadyH.cons (o := ⟨some 13, .buildSlice 30 1 #[(0, .tmp 12)], _, _, _, none⟩) rfl (fun K hK => ?_) AllReadyH.nil)
    (refine step_build1 hO rfl (by rfl) (xs := chC x) (by rfl) Tryd.underlying30 zs_ch Tryd.sizeOf65 (by decide) (by decide) rfl ?_; clear hO; intro b9 w7 hO)
    refine hK.out _ _ (HX.out _ (hO.suf sfx)).1 (fun hS => ?_)
    clear hK K
    try simp only [Act.put, sb, s0, sz]
    refine wpAnyH_ready (rs := [5]) (by kernel_rfl) (by simp) ?_
    refine (AllReadyH.cons (o := ⟨some 14, .call { callee := .builtin .append, args := #[.tmp 9, .tmp 13], argTypes := #[30, 30] }, _, _, _, none⟩) rfl (fun K hK => ?_) AllReadyH.nil)
    (refine step_appendG hO 3 rfl rfl (by rfl) (by rfl) (by rfl) Tryd.underlying30 info_ch (by decide) (m := 1) (news := chC x) (reads_pt hO 0 rfl (off := 0) (fun j u hu => by rw [Nat.zero_add, List.getElem?_toArray]; exact hu)) rfl (chC_one _) (by omega) (by omega) ?_; clear hO; intro a7 c7 w8 hO; simp only [List.set_cons_zero, List.set_cons_succ] at hO)
    refine hK.out _ _ (HX.out _ (hO.suf sfx)).1 (fun hS => ?_)
    clear hK K
    try simp only [Act.put, sb, s0, sz]
    refine wpAnyH_ready (rs := [6]) (by kernel_rfl) (by simp) ?_
    refine (AllReadyH.cons (o := ⟨none, .store 30 (.tmp 2) (.tmp 14), _, _, _, none⟩) rfl (fun K hK => ?_) AllReadyH.nil)
    (refine step_setC hO 1 rfl (by rfl) (by rfl) (by rfl) (v := .slice a7 (out.length + 1) c7) (by rfl) (by first | (simp [go_sem]; done) | (simp [go_sem]; rfl)) rfl rfl (by simp) ?_; clear hO; intro w9 hO; simp only [List.set_cons_zero, List.set_cons_succ] at hO)
    refine hK.out _ _ (HX.out _ (hO.suf sfx)).1 (fun hS => ?_)
    clear hK K
    try simp only [Act.put, sb, s0, sz]
    refine wpAnyH_done (by kernel_rfl) ?_ _
  rotate_right
  focus
    (refine step_build1 hO rfl (by rfl) (xs := chC x) (by rfl) Tryd.underlying30 zs_ch Tryd.sizeOf65 (by decide) (by decide) rfl ?_; clear hO; intro b9 w7 hO)
    refine hK.out _ _ (HX.out _ (hO.suf sfx)).1 (fun hS => ?_)
    clear hK K
    try simp only [Act.put, sb, s0, sz]
    refine wpAnyH_ready (rs := [0]) (by kernel_rfl) (by simp) ?_
    refine (AllReadyH.cons (o := ⟨some 9, .load 30 (.tmp 2), _, _, _, none⟩) rfl (fun K hK => ?_) AllReadyH.nil)
    (first | (refine step_load1 hO 0 rfl (by rfl) (by rfl) (by rfl) (by simp [go_sem]) rfl ?_) | (refine step_load1 hO 1 rfl (by rfl) (by rfl) (by rfl) (by simp [go_sem]) rfl ?_))
    refine hK.out _ _ (HX.out _ (hO.suf sfx)).1 (fun hS => ?_)
    clear hK K
    try simp only [Act.put, sb, s0, sz]
    refine wpAnyH_ready (rs := [5]) (by kernel_rfl) (by simp) ?_
    refine (AllReadyH.cons (o := ⟨some 14, .call { callee := .builtin .append, args := #[.tmp 9, .tmp 13], argTypes := #[30, 30] }, _, _, _, none⟩) rfl (fun K hK => ?_) AllReadyH.nil)
    (refine step_appendG hO 3 rfl rfl (by rfl) (by rfl) (by rfl) Tryd.underlying30 info_ch (by decide) (m := 1) (news := chC x) (reads_pt hO 0 rfl (off := 0) (fun j u hu => by rw [Nat.zero_add, List.getElem?_toArray]; exact hu)) rfl (chC_one _) (by omega) (by omega) ?_; clear hO; intro a7 c7 w8 hO; simp only [List.set_cons_zero, List.set_cons_succ] at hO)
    refine hK.out _ _ (HX.out _ (hO.suf sfx)).1 (fun hS => ?_)
    clear hK K
    try simp only [Act.put, sb, s0, sz]
    refine wpAnyH_ready (rs := [6]) (by kernel_rfl) (by simp) ?_
    refine (AllReadyH.cons (o := ⟨none, .store 30 (.tmp 2) (.tmp 14), _, _, _, none⟩) rfl (fun K hK => ?_) AllReadyH.nil)
    (refine step_setC hO 1 rfl (by rfl) (by rfl) (by rfl) (v := .slice a7 (out.length + 1) c7) (by rfl) (by first | (simp [go_sem]; done) | (simp [go_sem]; rfl)) rfl rfl (by simp) ?_; clear hO; intro w9 hO; simp only [List.set_cons_zero, List.set_cons_succ] at hO)
    refine hK.out _ _ (HX.out _ (hO.suf sfx)).1 (fun hS => ?_)
    clear hK K
    try simp only [Act.put, sb, s0, sz]
    refine wpAnyH_done (by kernel_rfl) ?_ _
  all_goals
    clear hS hE
    have hE := hO.tail
    clear hO
    go_wp2
    refine bodyPost_ret (results_none rfl _ _ _) rfl ?_
    refine ⟨_, rfl, a7, c7, ?_⟩
    have e1 : (out ++ [(x : Ch)]).length = out.length + 1 := by simp
    unfold boC
    rw [e1, ← rowCh_add]
    exact hE
set_option maxRecDepth 100000 in
set_option maxHeartbeats 4000000 in
attribute [-go_sem] Instr.loadAt Go.run_equalIn_agg in
theorem comp1_y {L0 : List HProp} {x : Ch} {bx ox : Nat} (hx : ∀ w, Ent L0 w → ∀ j v, (chC x)[j]? = some v → w.cell? ⟨bx, ox + j, none⟩ = some v) {p1 p2 : Nat} {ao : Option Addr} {c : Nat} {out : List Ch} {ok : Bool} (hn : out.length ≤ 1000000) {w : World} (hE : Ent (boC p1 p2 ao c out ok L0) w) :
    Calls Tryd.prog 55 #[.pointer none, .pointer (some ⟨bx, ox, none⟩), .pointer (some ⟨p1, 0, none⟩), .pointer (some ⟨p2, 0, none⟩)] w (Ret fun _ w' => C1Post p1 p2 (out ++ [x]) ok L0 w') := by
  unfold boC at hE
  have HX := SL.hid (fun (w : World) (h : Ent L0 w) => ptr_ch hx h)
  clear hx
  go_enter Tryd.func55, Tryd.ntmps55
  go_wp2
  have hO := hE.drew
  refine wp_region_held_drew (S := (fun w' => ((Instr.loadAt 65 (.pointer (some ⟨bx, ox, none⟩))).run Tryd.prog w' = .ok (.agg (chC x).toArray) w'))) (by kernel_rfl) (HX.out _ (hO.suf sfx)).1 (fun hS => ?_)
  refine takeW 1 ⟨some 19, .move (.tmp 1), _, _, _, none⟩ ?_ (.inl ⟨by rfl, ?_⟩) hS ?_; rotate_left; · (intro _ _; go_simp; (try with_reducible rfl))
  try simp only [Act.put, sb, s0, sz]
  refine takeW 2 ⟨some 20, .nilCheck (.tmp 19), _, _, _, none⟩ ?_ (.inl ⟨by rfl, ?_⟩) hS ?_; rotate_left; · (intro _ _; go_simp; (try with_reducible rfl))
  try simp only [Act.put, sb, s0, sz]
  refine takeW 3 ⟨some 21, .load 65 (.tmp 20), _, _, _, none⟩ ?_ (.inl ⟨by rfl, ?_⟩) hS ?_; rotate_left; · (intro w hSw; (try dsimp only at hSw); go_simp; (try with_reducible rfl))
  try simp only [Act.put, sb, s0, sz]
  refine wpAnyH_ready (rs := [0, 4]) (by kernel_rfl) (by simp) ?_
  refine (AllReadyH.cons (o := ⟨some 18, .load 30 (.tmp 2), _, _, _, none⟩) rfl (fun K hK => ?_) (AllReadyH.cons (o := ⟨some 22, .buildSlice 30 1 #[(0, .tmp 21)], _, _, _, none⟩) rfl (fun K hK => ?_) AllReadyH.nil))
  focus
    (first | (refine step_load1 hO 0 rfl (by rfl) (by rfl) (by rfl) (by simp [go_sem]) rfl ?_) | (refine step_load1 hO 1 rfl (by rfl) (by rfl) (by rfl) (by simp [go_sem]) rfl ?_))
    refine hK.out _ _ (HX.out _ (hO.suf sfx)).1 (fun hS => ?_)
    clear hK K
    try simp only [Act.put, sb, s0, sz]
    refine wpAnyH_ready (rs := [4]) (by kernel_rfl) (by simp) ?_
    refine (AllReadyH.cons (o := ⟨some 22, .buildSlice 30 1 #[(0, .tmp 21)], _, _, _, none⟩) rfl (fun K hK => ?_) AllReadyH.nil)
    (refine step_build1 hO rfl (by rfl) (xs := chC x) (by rfl) Tryd.underlying30 zs_ch Tryd.sizeOf65 (by decide) (by decide) rfl ?_; clear hO; intro b9 w7 hO)
    refine hK.out _ _ (HX.out _ (hO.suf sfx)).1 (fun hS => ?_)
    clear hK K
    try simp only [Act.put, sb, s0, sz]
    refine wpAnyH_ready (rs := [5]) (by kernel_rfl) (by simp) ?_
    refine (AllReadyH.cons (o := ⟨some 23, .call { callee := .builtin .append, args := #[.tmp 18, .tmp 22], argTypes := #[30, 30] }, _, _, _, none⟩) rfl (fun K hK => ?_) AllReadyH.nil)
    (refine step_appendG hO 3 rfl rfl (by rfl) (by rfl) (by rfl) Tryd.underlying30 info_ch (by decide) (m := 1) (news := chC x) (reads_pt hO 0 rfl (off := 0) (fun j u hu => by rw [Nat.zero_add, List.getElem?_toArray]; exact hu)) rfl (chC_one _) (by omega) (by omega) ?_; clear hO; intro a7 c7 w8 hO; simp only [List.set_cons_zero, List.set_cons_succ] at hO)
    refine hK.out _ _ (HX.out _ (hO.suf sfx)).1 (fun hS => ?_)
    clear hK K
    try simp only [Act.put, sb, s0, sz]
    refine wpAnyH_ready (rs := [6]) (by kernel_rfl) (by simp) ?_
    refine (AllReadyH.cons (o := ⟨none, .store 30 (.tmp 2) (.tmp 23), _, _, _, none⟩) rfl (fun K hK => ?_) AllReadyH.nil)
    (refine step_setC hO 1 rfl (by rfl) (by rfl) (by rfl) (v := .slice a7 (out.length + 1) c7) (by rfl) (by first | (simp [go_sem]; done) | (simp [go_sem]; rfl)) rfl rfl (by simp) ?_; clear hO; intro w9 hO; simp only [List.set_cons_zero, List.set_cons_succ] at hO)
    refine hK.out _ _ (HX.out _ (hO.suf sfx)).1 (fun hS => ?_)
    clear hK K
    try simp only [Act.put, sb, s0, sz]
    refine wpAnyH_done (by kernel_rfl) ?_ _
  rotate_right
  focus
    (refine step_build1 hO rfl (by rfl) (xs := chC x) (by rfl) Tryd.underlying30 zs_ch Tryd.sizeOf65 (by decide) (by decide) rfl ?_; clear hO; intro b9 w7 hO)
    refine hK.out _ _ (HX.out _ (hO.suf sfx)).1 (fun hS => ?_)
    clear hK K
    try simp only [Act.put, sb, s0, sz]
    refine wpAnyH_ready (rs := [0]) (by kernel_rfl) (by simp) ?_
    refine (AllReadyH.cons (o := ⟨some 18, .load 30 (.tmp 2), _, _, _, none⟩) rfl (fun K hK => ?_) AllReadyH.nil)
    (first | (refine step_load1 hO 0 rfl (by rfl) (by rfl) (by rfl) (by simp [go_sem]) rfl ?_) | (refine step_load1 hO 1 rfl (by rfl) (by rfl) (by rfl) (by simp [go_sem]) rfl ?_))
    refine hK.out _ _ (HX.out _ (hO.suf sfx)).1 (fun hS => ?_)
    clear hK K
    try simp only [Act.put, sb, s0, sz]
    refine wpAnyH_ready (rs := [5]) (by kernel_rfl) (by simp) ?_
    refine (AllReadyH.cons (o := ⟨some 23, .call { callee := .builtin .append, args := #[.tmp 18, .tmp 22], argTypes := #[30, 30] }, _, _, _, none⟩) rfl (fun K hK => ?_) AllReadyH.nil)
    (refine step_appendG hO 3 rfl rfl (by rfl) (by rfl) (by rfl) Tryd.underlying30 info_ch (by decide) (m := 1) (news := chC x) (reads_pt hO 0 rfl (off := 0) (fun j u hu => by rw [Nat.zero_add, List.getElem?_toArray]; exact hu)) rfl (chC_one _) (by omega) (by omega) ?_; clear hO; intro a7 c7 w8 hO; simp only [List.set_cons_zero, List.set_cons_succ] at hO)
    refine hK.out _ _ (HX.out _ (hO.suf sfx)).1 (fun hS => ?_)
    clear hK K
    try simp only [Act.put, sb, s0, sz]
    refine wpAnyH_ready (rs := [6]) (by kernel_rfl) (by simp) ?_
    refine (AllReadyH.cons (o := ⟨none, .store 30 (.tmp 2) (.tmp 23), _, _, _, none⟩) rfl (fun K hK => ?_) AllReadyH.nil)
    (refine step_setC hO 1 rfl (by rfl) (by rfl) (by rfl) (v := .slice a7 (out.length + 1) c7) (by rfl) (by first | (simp [go_sem]; done) | (simp [go_sem]; rfl)) rfl rfl (by simp) ?_; clear hO; intro w9 hO; simp only [List.set_cons_zero, List.set_cons_succ] at hO)
    refine hK.out _ _ (HX.out _ (hO.suf sfx)).1 (fun hS => ?_)
    clear hK K
    try simp only [Act.put, sb, s0, sz]
    refine wpAnyH_done (by kernel_rfl) ?_ _
  all_goals
    clear hS hE
    have hE := hO.tail
    clear hO
    go_wp2
    refine bodyPost_ret (results_none rfl _ _ _) rfl ?_
    refine ⟨_, rfl, a7, c7, ?_⟩
    have e1 : (out ++ [(x : Ch)]).length = out.length + 1 := by simp
    unfold boC
    rw [e1, ← rowCh_add]
    exact hE
set_option maxRecDepth 100000 in
set_option maxHeartbeats 4000000 in
attribute [-go_sem] Instr.loadAt Go.run_equalIn_agg in
theorem comp1_xy {L0 : List HProp} {x y : Ch} {bx ox b_y oy : Nat} (hx : ∀ w, Ent L0 w → ∀ j v, (chC x)[j]? = some v → w.cell? ⟨bx, ox + j, none⟩ = some v) (hy : ∀ w, Ent L0 w → ∀ j v, (chC y)[j]? = some v → w.cell? ⟨b_y, oy + j, none⟩ = some v) {p1 p2 : Nat} {ao : Option Addr} {c : Nat} {out : List Ch} {ok : Bool} (hn : out.length ≤ 1000000) {w : World} (hE : Ent (boC p1 p2 ao c out ok L0) w) :
    Calls Tryd.prog 55 #[.pointer (some ⟨bx, ox, none⟩), .pointer (some ⟨b_y, oy, none⟩), .pointer (some ⟨p1, 0, none⟩), .pointer (some ⟨p2, 0, none⟩)] w (Ret fun _ w' => C1Post p1 p2 (out ++ (stepO (some x, some y)).toList) (ok && fitsB (some x) (some y)) L0 w') := by
  unfold boC at hE
  have HX := SL.hid (fun (w : World) (h : Ent L0 w) => ptr_ch hx h)
  have HY := SL.hid (fun (w : World) (h : Ent L0 w) => ptr_ch hy h)
  clear hx hy
  obtain ⟨xp, ⟨zt, zd, zb⟩, ⟨xt, xd, xb⟩⟩ := x
  obtain ⟨yp, ⟨yt, yd, yb⟩, ⟨wt, wd, wb⟩⟩ := y
  simp only [chC, sdC] at HX HY
  have hEq2 := fun w => eqSd 9998 ⟨xt, xd, xb⟩ ⟨yt, yd, yb⟩ w
  have hEq := fun w => eqSd 9998 ⟨zt, zd, zb⟩ ⟨wt, wd, wb⟩ w
  have hk : stepO (some ⟨xp, ⟨zt, zd, zb⟩, ⟨xt, xd, xb⟩⟩, some ⟨yp, ⟨yt, yd, yb⟩, ⟨wt, wd, wb⟩⟩) = if ((⟨xt, xd, xb⟩ : Sd) == ⟨yt, yd, yb⟩) = true then (if ((⟨zt, zd, zb⟩ : Sd) == ⟨wt, wd, wb⟩) = true then none else some ⟨xp, ⟨zt, zd, zb⟩, ⟨wt, wd, wb⟩⟩) else none := by
    have e : compO (some ⟨xp, ⟨zt, zd, zb⟩, ⟨xt, xd, xb⟩⟩) (some ⟨yp, ⟨yt, yd, yb⟩, ⟨wt, wd, wb⟩⟩) = if ((⟨zt, zd, zb⟩ : Sd) == ⟨wt, wd, wb⟩) = true then none else some ⟨xp, ⟨zt, zd, zb⟩, ⟨wt, wd, wb⟩⟩ := by
      by_cases h : (⟨zt, zd, zb⟩ : Sd) = ⟨wt, wd, wb⟩ <;> simp [compO, h]
    rw [← e]
    rfl
  have hf : fitsB (some ⟨xp, ⟨zt, zd, zb⟩, ⟨xt, xd, xb⟩⟩) (some ⟨yp, ⟨yt, yd, yb⟩, ⟨wt, wd, wb⟩⟩) = ((⟨xt, xd, xb⟩ : Sd) == ⟨yt, yd, yb⟩) := rfl
  rw [hk, hf]
  clear hk hf
  simp only [sdC] at hEq hEq2
  generalize ((⟨zt, zd, zb⟩ : Sd) == ⟨wt, wd, wb⟩) = eq at *
  generalize ((⟨xt, xd, xb⟩ : Sd) == ⟨yt, yd, yb⟩) = eq2 at *
  cases eq2 with
  | false =>
    simp only [Bool.and_false, Bool.false_eq_true, if_false, Option.toList, List.append_nil]
    go_enter Tryd.func55, Tryd.ntmps55
    go_wp2
    have hO := hE.drew
    refine wp_region_held_drew (S := (fun w' => ((Instr.loadAt 9 (.pointer (some ⟨bx, ox, none⟩))).run Tryd.prog w' = .ok (.string ⟨xp.toArray⟩) w') ∧ ((Instr.loadAt 36 (.pointer (some ⟨bx, ox + 1, none⟩))).run Tryd.prog w' = .ok (.agg #[.bool zt, .bool zd, .string ⟨zb.toArray⟩]) w') ∧ ((Instr.loadAt 36 (.pointer (some ⟨bx, ox + 4, none⟩))).run Tryd.prog w' = .ok (.agg #[.bool xt, .bool xd, .string ⟨xb.toArray⟩]) w') ∧ ((Instr.loadAt 36 (.pointer (some ⟨b_y, oy + 1, none⟩))).run Tryd.prog w' = .ok (.agg #[.bool yt, .bool yd, .string ⟨yb.toArray⟩]) w') ∧ ((Instr.loadAt 36 (.pointer (some ⟨b_y, oy + 4, none⟩))).run Tryd.prog w' = .ok (.agg #[.bool wt, .bool wd, .string ⟨wb.toArray⟩]) w'))) (by kernel_rfl) ⟨(HX.out _ (hO.suf sfx)).2.1, (HX.out _ (hO.suf sfx)).2.2.1, (HX.out _ (hO.suf sfx)).2.2.2.1, (HY.out _ (hO.suf sfx)).2.2.1, (HY.out _ (hO.suf sfx)).2.2.2.1⟩ (fun hS => ?_)
    refine takeW 0 ⟨some 25, .move (.tmp 0), _, _, _, none⟩ ?_ (.inl ⟨by rfl, ?_⟩) hS ?_; rotate_left; · (intro _ _; go_simp; (try with_reducible rfl))
    try simp only [Act.put, sb, s0, sz]
    refine takeW 1 ⟨some 26, .nilCheck (.tmp 25), _, _, _, none⟩ ?_ (.inl ⟨by rfl, ?_⟩) hS ?_; rotate_left; · (intro _ _; go_simp; (try with_reducible rfl))
    try simp only [Act.put, sb, s0, sz]
    refine takeW 2 ⟨some 27, .fieldAddr 65 (.tmp 26) 2, _, _, _, none⟩ ?_ (.inl ⟨by rfl, ?_⟩) hS ?_; rotate_left; · (intro _ _; go_simp; (try with_reducible rfl))
    try simp only [Act.put, sb, s0, sz]
    refine takeW 3 ⟨some 28, .load 36 (.tmp 27), _, _, _, none⟩ ?_ (.inl ⟨by rfl, ?_⟩) hS ?_; rotate_left; · (intro w hSw; (try dsimp only at hSw); go_simp; (try with_reducible rfl))
    try simp only [Act.put, sb, s0, sz]
    refine takeW 4 ⟨some 29, .move (.tmp 1), _, _, _, none⟩ ?_ (.inl ⟨by rfl, ?_⟩) hS ?_; rotate_left; · (intro _ _; go_simp; (try with_reducible rfl))
    try simp only [Act.put, sb, s0, sz]
    refine takeW 5 ⟨some 30, .nilCheck (.tmp 29), _, _, _, none⟩ ?_ (.inl ⟨by rfl, ?_⟩) hS ?_; rotate_left; · (intro _ _; go_simp; (try with_reducible rfl))
    try simp only [Act.put, sb, s0, sz]
    refine takeW 6 ⟨some 31, .fieldAddr 65 (.tmp 30) 1, _, _, _, none⟩ ?_ (.inl ⟨by rfl, ?_⟩) hS ?_; rotate_left; · (intro _ _; go_simp; (try with_reducible rfl))
    try simp only [Act.put, sb, s0, sz]
    refine takeW 7 ⟨some 32, .load 36 (.tmp 31), _, _, _, none⟩ ?_ (.inl ⟨by rfl, ?_⟩) hS ?_; rotate_left; · (intro w hSw; (try dsimp only at hSw); go_simp; (try with_reducible rfl))
    try simp only [Act.put, sb, s0, sz]
    refine takeW 8 ⟨some 33, .binOp .neq 36 (.tmp 28) (.tmp 32) 36, _, _, _, none⟩ ?_ (.inl ⟨by rfl, ?_⟩) hS ?_; rotate_left; · (intro _ _; go_simp; (try with_reducible rfl))
    try simp only [Act.put, sb, s0, sz]
    refine takeW 9 ⟨some 24, .assign (.tmp 33), _, _, _, none⟩ ?_ (.inl ⟨by rfl, ?_⟩) hS ?_; rotate_left; · (intro _ _; go_simp; (try with_reducible rfl))
    try simp only [Act.put, sb, s0, sz]
    refine wpAnyH_done (by kernel_rfl) ?_ _
    all_goals
      clear hS hE
      have hE := hO
      clear hO
      go_wp2_with (first
        | go_skip
        | ((with_reducible (show Go.wpList _ _ _ (Go.Oper.mk _ (.store _ _ _) _ _ _ _ :: _) _ _)); refine wpl_st1 hE 1 rfl rfl rfl rfl rfl (by first | (simp [go_sem]; done) | (simp [go_sem]; rfl)) rfl rfl (by simp) ?_; clear hE; intro w7 hE; simp only [List.set_cons_zero, List.set_cons_succ] at hE))
      refine bodyPost_ret (results_none rfl _ _ _) rfl ?_
      exact ⟨_, rfl, ao, c, hE⟩
  | true =>
    cases eq with
    | true =>
      simp only [Bool.and_true, if_true, Option.toList, List.append_nil]
      go_enter Tryd.func55, Tryd.ntmps55
      go_wp2
      have hO := hE.drew
      refine wp_region_held_drew (S := (fun w' => ((Instr.loadAt 9 (.pointer (some ⟨bx, ox, none⟩))).run Tryd.prog w' = .ok (.string ⟨xp.toArray⟩) w') ∧ ((Instr.loadAt 36 (.pointer (some ⟨bx, ox + 1, none⟩))).run Tryd.prog w' = .ok (.agg #[.bool zt, .bool zd, .string ⟨zb.toArray⟩]) w') ∧ ((Instr.loadAt 36 (.pointer (some ⟨bx, ox + 4, none⟩))).run Tryd.prog w' = .ok (.agg #[.bool xt, .bool xd, .string ⟨xb.toArray⟩]) w') ∧ ((Instr.loadAt 36 (.pointer (some ⟨b_y, oy + 1, none⟩))).run Tryd.prog w' = .ok (.agg #[.bool yt, .bool yd, .string ⟨yb.toArray⟩]) w') ∧ ((Instr.loadAt 36 (.pointer (some ⟨b_y, oy + 4, none⟩))).run Tryd.prog w' = .ok (.agg #[.bool wt, .bool wd, .string ⟨wb.toArray⟩]) w'))) (by kernel_rfl) ⟨(HX.out _ (hO.suf sfx)).2.1, (HX.out _ (hO.suf sfx)).2.2.1, (HX.out _ (hO.suf sfx)).2.2.2.1, (HY.out _ (hO.suf sfx)).2.2.1, (HY.out _ (hO.suf sfx)).2.2.2.1⟩ (fun hS => ?_)
      refine takeW 0 ⟨some 25, .move (.tmp 0), _, _, _, none⟩ ?_ (.inl ⟨by rfl, ?_⟩) hS ?_; rotate_left; · (intro _ _; go_simp; (try with_reducible rfl))
      try simp only [Act.put, sb, s0, sz]
      refine takeW 1 ⟨some 26, .nilCheck (.tmp 25), _, _, _, none⟩ ?_ (.inl ⟨by rfl, ?_⟩) hS ?_; rotate_left; · (intro _ _; go_simp; (try with_reducible rfl))
      try simp only [Act.put, sb, s0, sz]
      refine takeW 2 ⟨some 27, .fieldAddr 65 (.tmp 26) 2, _, _, _, none⟩ ?_ (.inl ⟨by rfl, ?_⟩) hS ?_; rotate_left; · (intro _ _; go_simp; (try with_reducible rfl))
      try simp only [Act.put, sb, s0, sz]
      refine takeW 3 ⟨some 28, .load 36 (.tmp 27), _, _, _, none⟩ ?_ (.inl ⟨by rfl, ?_⟩) hS ?_; rotate_left; · (intro w hSw; (try dsimp only at hSw); go_simp; (try with_reducible rfl))
      try simp only [Act.put, sb, s0, sz]
      refine takeW 4 ⟨some 29, .move (.tmp 1), _, _, _, none⟩ ?_ (.inl ⟨by rfl, ?_⟩) hS ?_; rotate_left; · (intro _ _; go_simp; (try with_reducible rfl))
      try simp only [Act.put, sb, s0, sz]
      refine takeW 5 ⟨some 30, .nilCheck (.tmp 29), _, _, _, none⟩ ?_ (.inl ⟨by rfl, ?_⟩) hS ?_; rotate_left; · (intro _ _; go_simp; (try with_reducible rfl))
      try simp only [Act.put, sb, s0, sz]
      refine takeW 6 ⟨some 31, .fieldAddr 65 (.tmp 30) 1, _, _, _, none⟩ ?_ (.inl ⟨by rfl, ?_⟩) hS ?_; rotate_left; · (intro _ _; go_simp; (try with_reducible rfl))
      try simp only [Act.put, sb, s0, sz]
      refine takeW 7 ⟨some 32, .load 36 (.tmp 31), _, _, _, none⟩ ?_ (.inl ⟨by rfl, ?_⟩) hS ?_; rotate_left; · (intro w hSw; (try dsimp only at hSw); go_simp; (try with_reducible rfl))
      try simp only [Act.put, sb, s0, sz]
      refine takeW 8 ⟨some 33, .binOp .neq 36 (.tmp 28) (.tmp 32) 36, _, _, _, none⟩ ?_ (.inl ⟨by rfl, ?_⟩) hS ?_; rotate_left; · (intro _ _; go_simp; (try with_reducible rfl))
      try simp only [Act.put, sb, s0, sz]
      refine takeW 9 ⟨some 24, .assign (.tmp 33), _, _, _, none⟩ ?_ (.inl ⟨by rfl, ?_⟩) hS ?_; rotate_left; · (intro _ _; go_simp; (try with_reducible rfl))
      try simp only [Act.put, sb, s0, sz]
      refine wpAnyH_done (by kernel_rfl) ?_ _
      all_goals
        clear hS hE
        have hE := hO
        clear hO
        go_wp2
        have hO := hE.drew
        refine wp_region_held_drew (S := (fun w' => ((Instr.loadAt 9 (.pointer (some ⟨bx, ox, none⟩))).run Tryd.prog w' = .ok (.string ⟨xp.toArray⟩) w') ∧ ((Instr.loadAt 36 (.pointer (some ⟨bx, ox + 1, none⟩))).run Tryd.prog w' = .ok (.agg #[.bool zt, .bool zd, .string ⟨zb.toArray⟩]) w') ∧ ((Instr.loadAt 36 (.pointer (some ⟨bx, ox + 4, none⟩))).run Tryd.prog w' = .ok (.agg #[.bool xt, .bool xd, .string ⟨xb.toArray⟩]) w') ∧ ((Instr.loadAt 36 (.pointer (some ⟨b_y, oy + 1, none⟩))).run Tryd.prog w' = .ok (.agg #[.bool yt, .bool yd, .string ⟨yb.toArray⟩]) w') ∧ ((Instr.loadAt 36 (.pointer (some ⟨b_y, oy + 4, none⟩))).run Tryd.prog w' = .ok (.agg #[.bool wt, .bool wd, .string ⟨wb.toArray⟩]) w'))) (by kernel_rfl) ⟨(HX.out _ (hO.suf sfx)).2.1, (HX.out _ (hO.suf sfx)).2.2.1, (HX.out _ (hO.suf sfx)).2.2.2.1, (HY.out _ (hO.suf sfx)).2.2.1, (HY.out _ (hO.suf sfx)).2.2.2.1⟩ (fun hS => ?_)
        refine takeW 0 ⟨some 35, .move (.tmp 0), _, _, _, none⟩ ?_ (.inl ⟨by rfl, ?_⟩) hS ?_; rotate_left; · (intro _ _; go_simp; (try with_reducible rfl))
        try simp only [Act.put, sb, s0, sz]
        refine takeW 1 ⟨some 36, .nilCheck (.tmp 35), _, _, _, none⟩ ?_ (.inl ⟨by rfl, ?_⟩) hS ?_; rotate_left; · (intro _ _; go_simp; (try with_reducible rfl))
        try simp only [Act.put, sb, s0, sz]
        refine takeW 2 ⟨some 37, .fieldAddr 65 (.tmp 36) 1, _, _, _, none⟩ ?_ (.inl ⟨by rfl, ?_⟩) hS ?_; rotate_left; · (intro _ _; go_simp; (try with_reducible rfl))
        try simp only [Act.put, sb, s0, sz]
        refine takeW 3 ⟨some 38, .load 36 (.tmp 37), _, _, _, none⟩ ?_ (.inl ⟨by rfl, ?_⟩) hS ?_; rotate_left; · (intro w hSw; (try dsimp only at hSw); go_simp; (try with_reducible rfl))
        try simp only [Act.put, sb, s0, sz]
        refine takeW 4 ⟨some 39, .move (.tmp 1), _, _, _, none⟩ ?_ (.inl ⟨by rfl, ?_⟩) hS ?_; rotate_left; · (intro _ _; go_simp; (try with_reducible rfl))
        try simp only [Act.put, sb, s0, sz]
        refine takeW 5 ⟨some 40, .nilCheck (.tmp 39), _, _, _, none⟩ ?_ (.inl ⟨by rfl, ?_⟩) hS ?_; rotate_left; · (intro _ _; go_simp; (try with_reducible rfl))
        try simp only [Act.put, sb, s0, sz]
        refine takeW 6 ⟨some 41, .fieldAddr 65 (.tmp 40) 2, _, _, _, none⟩ ?_ (.inl ⟨by rfl, ?_⟩) hS ?_; rotate_left; · (intro _ _; go_simp; (try with_reducible rfl))
        try simp only [Act.put, sb, s0, sz]
        refine takeW 7 ⟨some 42, .load 36 (.tmp 41), _, _, _, none⟩ ?_ (.inl ⟨by rfl, ?_⟩) hS ?_; rotate_left; · (intro w hSw; (try dsimp only at hSw); go_simp; (try with_reducible rfl))
        try simp only [Act.put, sb, s0, sz]
        refine takeW 8 ⟨some 43, .binOp .neq 36 (.tmp 38) (.tmp 42) 36, _, _, _, none⟩ ?_ (.inl ⟨by rfl, ?_⟩) hS ?_; rotate_left; · (intro _ _; go_simp; (try with_reducible rfl))
        try simp only [Act.put, sb, s0, sz]
        refine takeW 9 ⟨some 34, .assign (.tmp 43), _, _, _, none⟩ ?_ (.inl ⟨by rfl, ?_⟩) hS ?_; rotate_left; · (intro _ _; go_simp; (try with_reducible rfl))
        try simp only [Act.put, sb, s0, sz]
        refine wpAnyH_done (by kernel_rfl) ?_ _
        all_goals
          clear hS hE
          have hE := hO
          clear hO
          go_wp2
          refine bodyPost_ret (results_none rfl _ _ _) rfl ?_
          exact ⟨_, rfl, ao, c, hE⟩
    | false =>
      simp only [Bool.and_true, if_true, Bool.false_eq_true, if_false, Option.toList]
      go_enter Tryd.func55, Tryd.ntmps55
      go_wp2
      have hO := hE.drew
      refine wp_region_held_drew (S := (fun w' => ((Instr.loadAt 9 (.pointer (some ⟨bx, ox, none⟩))).run Tryd.prog w' = .ok (.string ⟨xp.toArray⟩) w') ∧ ((Instr.loadAt 36 (.pointer (some ⟨bx, ox + 1, none⟩))).run Tryd.prog w' = .ok (.agg #[.bool zt, .bool zd, .string ⟨zb.toArray⟩]) w') ∧ ((Instr.loadAt 36 (.pointer (some ⟨bx, ox + 4, none⟩))).run Tryd.prog w' = .ok (.agg #[.bool xt, .bool xd, .string ⟨xb.toArray⟩]) w') ∧ ((Instr.loadAt 36 (.pointer (some ⟨b_y, oy + 1, none⟩))).run Tryd.prog w' = .ok (.agg #[.bool yt, .bool yd, .string ⟨yb.toArray⟩]) w') ∧ ((Instr.loadAt 36 (.pointer (some ⟨b_y, oy + 4, none⟩))).run Tryd.prog w' = .ok (.agg #[.bool wt, .bool wd, .string ⟨wb.toArray⟩]) w'))) (by kernel_rfl) ⟨(HX.out _ (hO.suf sfx)).2.1, (HX.out _ (hO.suf sfx)).2.2.1, (HX.out _ (hO.suf sfx)).2.2.2.1, (HY.out _ (hO.suf sfx)).2.2.1, (HY.out _ (hO.suf sfx)).2.2.2.1⟩ (fun hS => ?_)
      refine takeW 0 ⟨some 25, .move (.tmp 0), _, _, _, none⟩ ?_ (.inl ⟨by rfl, ?_⟩) hS ?_; rotate_left; · (intro _ _; go_simp; (try with_reducible rfl))
      try simp only [Act.put, sb, s0, sz]
      refine takeW 1 ⟨some 26, .nilCheck (.tmp 25), _, _, _, none⟩ ?_ (.inl ⟨by rfl, ?_⟩) hS ?_; rotate_left; · (intro _ _; go_simp; (try with_reducible rfl))
      try simp only [Act.put, sb, s0, sz]
      refine takeW 2 ⟨some 27, .fieldAddr 65 (.tmp 26) 2, _, _, _, none⟩ ?_ (.inl ⟨by rfl, ?_⟩) hS ?_; rotate_left; · (intro _ _; go_simp; (try with_reducible rfl))
      try simp only [Act.put, sb, s0, sz]
      refine takeW 3 ⟨some 28, .load 36 (.tmp 27), _, _, _, none⟩ ?_ (.inl ⟨by rfl, ?_⟩) hS ?_; rotate_left; · (intro w hSw; (try dsimp only at hSw); go_simp; (try with_reducible rfl))
      try simp only [Act.put, sb, s0, sz]
      refine takeW 4 ⟨some 29, .move (.tmp 1), _, _, _, none⟩ ?_ (.inl ⟨by rfl, ?_⟩) hS ?_; rotate_left; · (intro _ _; go_simp; (try with_reducible rfl))
      try simp only [Act.put, sb, s0, sz]
      refine takeW 5 ⟨some 30, .nilCheck (.tmp 29), _, _, _, none⟩ ?_ (.inl ⟨by rfl, ?_⟩) hS ?_; rotate_left; · (intro _ _; go_simp; (try with_reducible rfl))
      try simp only [Act.put, sb, s0, sz]
      refine takeW 6 ⟨some 31, .fieldAddr 65 (.tmp 30) 1, _, _, _, none⟩ ?_ (.inl ⟨by rfl, ?_⟩) hS ?_; rotate_left; · (intro _ _; go_simp; (try with_reducible rfl))
      try simp only [Act.put, sb, s0, sz]
      refine takeW 7 ⟨some 32, .load 36 (.tmp 31), _, _, _, none⟩ ?_ (.inl ⟨by rfl, ?_⟩) hS ?_; rotate_left; · (intro w hSw; (try dsimp only at hSw); go_simp; (try with_reducible rfl))
      try simp only [Act.put, sb, s0, sz]
      refine takeW 8 ⟨some 33, .binOp .neq 36 (.tmp 28) (.tmp 32) 36, _, _, _, none⟩ ?_ (.inl ⟨by rfl, ?_⟩) hS ?_; rotate_left; · (intro _ _; go_simp; (try with_reducible rfl))
      try simp only [Act.put, sb, s0, sz]
      refine takeW 9 ⟨some 24, .assign (.tmp 33), _, _, _, none⟩ ?_ (.inl ⟨by rfl, ?_⟩) hS ?_; rotate_left; · (intro _ _; go_simp; (try with_reducible rfl))
      try simp only [Act.put, sb, s0, sz]
      refine wpAnyH_done (by kernel_rfl) ?_ _
      all_goals
        clear hS hE
        have hE := hO
        clear hO
        go_wp2
        have hO := hE.drew
        refine wp_region_held_drew (S := (fun w' => ((Instr.loadAt 9 (.pointer (some ⟨bx, ox, none⟩))).run Tryd.prog w' = .ok (.string ⟨xp.toArray⟩) w') ∧ ((Instr.loadAt 36 (.pointer (some ⟨bx, ox + 1, none⟩))).run Tryd.prog w' = .ok (.agg #[.bool zt, .bool zd, .string ⟨zb.toArray⟩]) w') ∧ ((Instr.loadAt 36 (.pointer (some ⟨bx, ox + 4, none⟩))).run Tryd.prog w' = .ok (.agg #[.bool xt, .bool xd, .string ⟨xb.toArray⟩]) w') ∧ ((Instr.loadAt 36 (.pointer (some ⟨b_y, oy + 1, none⟩))).run Tryd.prog w' = .ok (.agg #[.bool yt, .bool yd, .string ⟨yb.toArray⟩]) w') ∧ ((Instr.loadAt 36 (.pointer (some ⟨b_y, oy + 4, none⟩))).run Tryd.prog w' = .ok (.agg #[.bool wt, .bool wd, .string ⟨wb.toArray⟩]) w'))) (by kernel_rfl) ⟨(HX.out _ (hO.suf sfx)).2.1, (HX.out _ (hO.suf sfx)).2.2.1, (HX.out _ (hO.suf sfx)).2.2.2.1, (HY.out _ (hO.suf sfx)).2.2.1, (HY.out _ (hO.suf sfx)).2.2.2.1⟩ (fun hS => ?_)
        refine takeW 0 ⟨some 35, .move (.tmp 0), _, _, _, none⟩ ?_ (.inl ⟨by rfl, ?_⟩) hS ?_; rotate_left; · (intro _ _; go_simp; (try with_reducible rfl))
        try simp only [Act.put, sb, s0, sz]
        refine takeW 1 ⟨some 36, .nilCheck (.tmp 35), _, _, _, none⟩ ?_ (.inl ⟨by rfl, ?_⟩) hS ?_; rotate_left; · (intro _ _; go_simp; (try with_reducible rfl))
        try simp only [Act.put, sb, s0, sz]
        refine takeW 2 ⟨some 37, .fieldAddr 65 (.tmp 36) 1, _, _, _, none⟩ ?_ (.inl ⟨by rfl, ?_⟩) hS ?_; rotate_left; · (intro _ _; go_simp; (try with_reducible rfl))
        try simp only [Act.put, sb, s0, sz]
        refine takeW 3 ⟨some 38, .load 36 (.tmp 37), _, _, _, none⟩ ?_ (.inl ⟨by rfl, ?_⟩) hS ?_; rotate_left; · (intro w hSw; (try dsimp only at hSw); go_simp; (try with_reducible rfl))
        try simp only [Act.put, sb, s0, sz]
        refine takeW 4 ⟨some 39, .move (.tmp 1), _, _, _, none⟩ ?_ (.inl ⟨by rfl, ?_⟩) hS ?_; rotate_left; · (intro _ _; go_simp; (try with_reducible rfl))
        try simp only [Act.put, sb, s0, sz]
        refine takeW 5 ⟨some 40, .nilCheck (.tmp 39), _, _, _, none⟩ ?_ (.inl ⟨by rfl, ?_⟩) hS ?_; rotate_left; · (intro _ _; go_simp; (try with_reducible rfl))
        try simp only [Act.put, sb, s0, sz]
        refine takeW 6 ⟨some 41, .fieldAddr 65 (.tmp 40) 2, _, _, _, none⟩ ?_ (.inl ⟨by rfl, ?_⟩) hS ?_; rotate_left; · (intro _ _; go_simp; (try with_reducible rfl))
        try simp only [Act.put, sb, s0, sz]
        refine takeW 7 ⟨some 42, .load 36 (.tmp 41), _, _, _, none⟩ ?_ (.inl ⟨by rfl, ?_⟩) hS ?_; rotate_left; · (intro w hSw; (try dsimp only at hSw); go_simp; (try with_reducible rfl))
        try simp only [Act.put, sb, s0, sz]
        refine takeW 8 ⟨some 43, .binOp .neq 36 (.tmp 38) (.tmp 42) 36, _, _, _, none⟩ ?_ (.inl ⟨by rfl, ?_⟩) hS ?_; rotate_left; · (intro _ _; go_simp; (try with_reducible rfl))
        try simp only [Act.put, sb, s0, sz]
        refine takeW 9 ⟨some 34, .assign (.tmp 43), _, _, _, none⟩ ?_ (.inl ⟨by rfl, ?_⟩) hS ?_; rotate_left; · (intro _ _; go_simp; (try with_reducible rfl))
        try simp only [Act.put, sb, s0, sz]
        refine wpAnyH_done (by kernel_rfl) ?_ _
        all_goals
          clear hS hE
          have hE := hO
          clear hO
          go_wp2
          have hO := hE.drew
          refine wp_region_held_drew (S := (fun w' => ((Instr.loadAt 9 (.pointer (some ⟨bx, ox, none⟩))).run Tryd.prog w' = .ok (.string ⟨xp.toArray⟩) w') ∧ ((Instr.loadAt 36 (.pointer (some ⟨bx, ox + 1, none⟩))).run Tryd.prog w' = .ok (.agg #[.bool zt, .bool zd, .string ⟨zb.toArray⟩]) w') ∧ ((Instr.loadAt 36 (.pointer (some ⟨bx, ox + 4, none⟩))).run Tryd.prog w' = .ok (.agg #[.bool xt, .bool xd, .string ⟨xb.toArray⟩]) w') ∧ ((Instr.loadAt 36 (.pointer (some ⟨b_y, oy + 1, none⟩))).run Tryd.prog w' = .ok (.agg #[.bool yt, .bool yd, .string ⟨yb.toArray⟩]) w') ∧ ((Instr.loadAt 36 (.pointer (some ⟨b_y, oy + 4, none⟩))).run Tryd.prog w' = .ok (.agg #[.bool wt, .bool wd, .string ⟨wb.toArray⟩]) w'))) (by kernel_rfl) ⟨(HX.out _ (hO.suf sfx)).2.1, (HX.out _ (hO.suf sfx)).2.2.1, (HX.out _ (hO.suf sfx)).2.2.2.1, (HY.out _ (hO.suf sfx)).2.2.1, (HY.out _ (hO.suf sfx)).2.2.2.1⟩ (fun hS => ?_)
          refine takeW 1 ⟨some 45, .move (.tmp 0), _, _, _, none⟩ ?_ (.inl ⟨by rfl, ?_⟩) hS ?_; rotate_left; · (intro _ _; go_simp; (try with_reducible rfl))
          try simp only [Act.put, sb, s0, sz]
          refine takeW 2 ⟨some 46, .nilCheck (.tmp 45), _, _, _, none⟩ ?_ (.inl ⟨by rfl, ?_⟩) hS ?_; rotate_left; · (intro _ _; go_simp; (try with_reducible rfl))
          try simp only [Act.put, sb, s0, sz]
          refine takeW 3 ⟨some 47, .fieldAddr 65 (.tmp 46) 0, _, _, _, none⟩ ?_ (.inl ⟨by rfl, ?_⟩) hS ?_; rotate_left; · (intro _ _; go_simp; (try with_reducible rfl))
          try simp only [Act.put, sb, s0, sz]
          refine takeW 4 ⟨some 48, .load 9 (.tmp 47), _, _, _, none⟩ ?_ (.inl ⟨by rfl, ?_⟩) hS ?_; rotate_left; · (intro w hSw; (try dsimp only at hSw); go_simp; (try with_reducible rfl))
          try simp only [Act.put, sb, s0, sz]
          refine takeW 5 ⟨some 49, .move (.tmp 0), _, _, _, none⟩ ?_ (.inl ⟨by rfl, ?_⟩) hS ?_; rotate_left; · (intro _ _; go_simp; (try with_reducible rfl))
          try simp only [Act.put, sb, s0, sz]
          refine takeW 6 ⟨some 50, .nilCheck (.tmp 49), _, _, _, none⟩ ?_ (.inl ⟨by rfl, ?_⟩) hS ?_; rotate_left; · (intro _ _; go_simp; (try with_reducible rfl))
          try simp only [Act.put, sb, s0, sz]
          refine takeW 7 ⟨some 51, .fieldAddr 65 (.tmp 50) 1, _, _, _, none⟩ ?_ (.inl ⟨by rfl, ?_⟩) hS ?_; rotate_left; · (intro _ _; go_simp; (try with_reducible rfl))
          try simp only [Act.put, sb, s0, sz]
          refine takeW 8 ⟨some 52, .load 36 (.tmp 51), _, _, _, none⟩ ?_ (.inl ⟨by rfl, ?_⟩) hS ?_; rotate_left; · (intro w hSw; (try dsimp only at hSw); go_simp; (try with_reducible rfl))
          try simp only [Act.put, sb, s0, sz]
          refine takeW 9 ⟨some 53, .move (.tmp 1), _, _, _, none⟩ ?_ (.inl ⟨by rfl, ?_⟩) hS ?_; rotate_left; · (intro _ _; go_simp; (try with_reducible rfl))
          try simp only [Act.put, sb, s0, sz]
          refine takeW 10 ⟨some 54, .nilCheck (.tmp 53), _, _, _, none⟩ ?_ (.inl ⟨by rfl, ?_⟩) hS ?_; rotate_left; · (intro _ _; go_simp; (try with_reducible rfl))
          try simp only [Act.put, sb, s0, sz]
          refine takeW 11 ⟨some 55, .fieldAddr 65 (.tmp 54) 2, _, _, _, none⟩ ?_ (.inl ⟨by rfl, ?_⟩) hS ?_; rotate_left; · (intro _ _; go_simp; (try with_reducible rfl))
          try simp only [Act.put, sb, s0, sz]
          refine takeW 12 ⟨some 56, .load 36 (.tmp 55), _, _, _, none⟩ ?_ (.inl ⟨by rfl, ?_⟩) hS ?_; rotate_left; · (intro w hSw; (try dsimp only at hSw); go_simp; (try with_reducible rfl))
          try simp only [Act.put, sb, s0, sz]
          refine takeW 13 ⟨some 57, .build 65 #[(0, .tmp 48), (1, .tmp 52), (2, .tmp 56)], _, _, _, none⟩ ?_ (.inl ⟨by rfl, ?_⟩) hS ?_; rotate_left; · (intro _ _; go_simp; (try with_reducible rfl))
          try simp only [Act.put, sb, s0, sz]
          refine wpAnyH_ready (rs := [0, 14]) (by kernel_rfl) (by simp) ?_
          refine (AllReadyH.cons (o := ⟨some 44, .load 30 (.tmp 2), _, _, _, none⟩) rfl (fun K hK => ?_) (AllReadyH.cons (o := ⟨some 58, .buildSlice 30 1 #[(0, .tmp 57)], _, _, _, none⟩) rfl (fun K hK => ?_) AllReadyH.nil))
          focus
            (first | (refine step_load1 hO 0 rfl (by rfl) (by rfl) (by rfl) (by simp [go_sem]) rfl ?_) | (refine step_load1 hO 1 rfl (by rfl) (by rfl) (by rfl) (by simp [go_sem]) rfl ?_))
            refine hK.out _ _ ⟨(HX.out _ (hO.suf sfx)).2.1, (HX.out _ (hO.suf sfx)).2.2.1, (HX.out _ (hO.suf sfx)).2.2.2.1, (HY.out _ (hO.suf sfx)).2.2.1, (HY.out _ (hO.suf sfx)).2.2.2.1⟩ (fun hS => ?_)
            clear hK K
            try simp only [Act.put, sb, s0, sz]
            refine wpAnyH_ready (rs := [14]) (by kernel_rfl) (by simp) ?_
            refine (AllReadyH.cons (o := ⟨some 58, .buildSlice 30 1 #[(0, .tmp 57)], _, _, _, none⟩) rfl (fun K hK => ?_) AllReadyH.nil)
            (refine step_build1 hO rfl (by rfl) (xs := chC ⟨xp, ⟨zt, zd, zb⟩, ⟨wt, wd, wb⟩⟩) (by rfl) Tryd.underlying30 zs_ch Tryd.sizeOf65 (by decide) (by decide) rfl ?_; clear hO; intro b9 w7 hO)
            refine hK.out _ _ ⟨(HX.out _ (hO.suf sfx)).2.1, (HX.out _ (hO.suf sfx)).2.2.1, (HX.out _ (hO.suf sfx)).2.2.2.1, (HY.out _ (hO.suf sfx)).2.2.1, (HY.out _ (hO.suf sfx)).2.2.2.1⟩ (fun hS => ?_)
            clear hK K
            try simp only [Act.put, sb, s0, sz]
            refine wpAnyH_ready (rs := [15]) (by kernel_rfl) (by simp) ?_
            refine (AllReadyH.cons (o := ⟨some 59, .call { callee := .builtin .append, args := #[.tmp 44, .tmp 58], argTypes := #[30, 30] }, _, _, _, none⟩) rfl (fun K hK => ?_) AllReadyH.nil)
            (refine step_appendG hO 3 rfl rfl (by rfl) (by rfl) (by rfl) Tryd.underlying30 info_ch (by decide) (m := 1) (news := chC ⟨xp, ⟨zt, zd, zb⟩, ⟨wt, wd, wb⟩⟩) (reads_pt hO 0 rfl (off := 0) (fun j u hu => by rw [Nat.zero_add, List.getElem?_toArray]; exact hu)) rfl (chC_one _) (by omega) (by omega) ?_; clear hO; intro a7 c7 w8 hO; simp only [List.set_cons_zero, List.set_cons_succ] at hO)
            refine hK.out _ _ ⟨(HX.out _ (hO.suf sfx)).2.1, (HX.out _ (hO.suf sfx)).2.2.1, (HX.out _ (hO.suf sfx)).2.2.2.1, (HY.out _ (hO.suf sfx)).2.2.1, (HY.out _ (hO.suf sfx)).2.2.2.1⟩ (fun hS => ?_)
            clear hK K
            try simp only [Act.put, sb, s0, sz]
            refine wpAnyH_ready (rs := [16]) (by kernel_rfl) (by simp) ?_
            refine (AllReadyH.cons (o := ⟨none, .store 30 (.tmp 2) (.tmp 59), _, _, _, none⟩) rfl (fun K hK => ?_) AllReadyH.nil)
            (refine step_setC hO 1 rfl (by rfl) (by rfl) (by rfl) (v := .slice a7 (out.length + 1) c7) (by rfl) (by first | (simp [go_sem]; done) | (simp [go_sem]; rfl)) rfl rfl (by simp) ?_; clear hO; intro w9 hO; simp only [List.set_cons_zero, List.set_cons_succ] at hO)
            refine hK.out _ _ ⟨(HX.out _ (hO.suf sfx)).2.1, (HX.out _ (hO.suf sfx)).2.2.1, (HX.out _ (hO.suf sfx)).2.2.2.1, (HY.out _ (hO.suf sfx)).2.2.1, (HY.out _ (hO.suf sfx)).2.2.2.1⟩ (fun hS => ?_)
            clear hK K
            try simp only [Act.put, sb, s0, sz]
            refine wpAnyH_done (by kernel_rfl) ?_ _
          rotate_right
          focus
            (refine step_build1 hO rfl (by rfl) (xs := chC ⟨xp, ⟨zt, zd, zb⟩, ⟨wt, wd, wb⟩⟩) (by rfl) Tryd.underlying30 zs_ch Tryd.sizeOf65 (by decide) (by decide) rfl ?_; clear hO; intro b9 w7 hO)
            refine hK.out _ _ ⟨(HX.out _ (hO.suf sfx)).2.1, (HX.out _ (hO.suf sfx)).2.2.1, (HX.out _ (hO.suf sfx)).2.2.2.1, (HY.out _ (hO.suf sfx)).2.2.1, (HY.out _ (hO.suf sfx)).2.2.2.1⟩ (fun hS => ?_)
            clear hK K
            try simp only [Act.put, sb, s0, sz]
            refine wpAnyH_ready (rs := [0]) (by kernel_rfl) (by simp) ?_
            refine (AllReadyH.cons (o := ⟨some 44, .load 30 (.tmp 2), _, _, _, none⟩) rfl (fun K hK => ?_) AllReadyH.nil)
            (first | (refine step_load1 hO 0 rfl (by rfl) (by rfl) (by rfl) (by simp [go_sem]) rfl ?_) | (refine step_load1 hO 1 rfl (by rfl) (by rfl) (by rfl) (by simp [go_sem]) rfl ?_))
            refine hK.out _ _ ⟨(HX.out _ (hO.suf sfx)).2.1, (HX.out _ (hO.suf sfx)).2.2.1, (HX.out _ (hO.suf sfx)).2.2.2.1, (HY.out _ (hO.suf sfx)).2.2.1, (HY.out _ (hO.suf sfx)).2.2.2.1⟩ (fun hS => ?_)
            clear hK K
            try simp only [Act.put, sb, s0, sz]
            refine wpAnyH_ready (rs := [15]) (by kernel_rfl) (by simp) ?_
            refine (AllReadyH.cons (o := ⟨some 59, .call { callee := .builtin .append, args := #[.tmp 44, .tmp 58], argTypes := #[30, 30] }, _, _, _, none⟩) rfl (fun K hK => ?_) AllReadyH.nil)
            (refine step_appendG hO 3 rfl rfl (by rfl) (by rfl) (by rfl) Tryd.underlying30 info_ch (by decide) (m := 1) (news := chC ⟨xp, ⟨zt, zd, zb⟩, ⟨wt, wd, wb⟩⟩) (reads_pt hO 0 rfl (off := 0) (fun j u hu => by rw [Nat.zero_add, List.getElem?_toArray]; exact hu)) rfl (chC_one _) (by omega) (by omega) ?_; clear hO; intro a7 c7 w8 hO; simp only [List.set_cons_zero, List.set_cons_succ] at hO)
            refine hK.out _ _ ⟨(HX.out _ (hO.suf sfx)).2.1, (HX.out _ (hO.suf sfx)).2.2.1, (HX.out _ (hO.suf sfx)).2.2.2.1, (HY.out _ (hO.suf sfx)).2.2.1, (HY.out _ (hO.suf sfx)).2.2.2.1⟩ (fun hS => ?_)
            clear hK K
            try simp only [Act.put, sb, s0, sz]
            refine wpAnyH_ready (rs := [16]) (by kernel_rfl) (by simp) ?_
            refine (AllReadyH.cons (o := ⟨none, .store 30 (.tmp 2) (.tmp 59), _, _, _, none⟩) rfl (fun K hK => ?_) AllReadyH.nil)
            (refine step_setC hO 1 rfl (by rfl) (by rfl) (by rfl) (v := .slice a7 (out.length + 1) c7) (by rfl) (by first | (simp [go_sem]; done) | (simp [go_sem]; rfl)) rfl rfl (by simp) ?_; clear hO; intro w9 hO; simp only [List.set_cons_zero, List.set_cons_succ] at hO)
            refine hK.out _ _ ⟨(HX.out _ (hO.suf sfx)).2.1, (HX.out _ (hO.suf sfx)).2.2.1, (HX.out _ (hO.suf sfx)).2.2.2.1, (HY.out _ (hO.suf sfx)).2.2.1, (HY.out _ (hO.suf sfx)).2.2.2.1⟩ (fun hS => ?_)
            clear hK K
            try simp only [Act.put, sb, s0, sz]
            refine wpAnyH_done (by kernel_rfl) ?_ _
          all_goals
            clear hS hE
            have hE := hO.tail
            clear hO
            go_wp2
            refine bodyPost_ret (results_none rfl _ _ _) rfl ?_
            refine ⟨_, rfl, a7, c7, ?_⟩
            have e1 : (out ++ [(⟨xp, ⟨zt, zd, zb⟩, ⟨wt, wd, wb⟩⟩ : Ch)]).length = out.length + 1 := by simp
            unfold boC
            rw [e1, ← rowCh_add]
            exact hE
end Go.Proofs.YtcpgelpajppgdaaDoor
namespace Go.Proofs.YtcpgelpajppgdaaDoor
open Go.RowKit Go.SL

def BoRel54 (N : Nat) (BB : List (Option Ch × Option Ch)) (J : List (Option Ch × Option Ch) → List HProp → Prop) (L0 : List HProp) (lo mo : Value) (wr : World) : Prop :=
  ∃ (n : Nat) (xs : List Ch) (ys : List Ch) (ao bo : Option Addr) (c d : Nat) (done : List (Option Ch × Option Ch)) (L : List HProp), n ≤ N ∧ xs.length + ys.length ≤ n ∧ lo = .slice ao xs.length c ∧ mo = .slice bo ys.length d ∧ xs.length ≤ c ∧ ys.length ≤ d ∧
    Knows L0 (reads (.slice ao xs.length c) xs.length (xs.flatMap chC)) ∧ Knows L0 (reads (.slice bo ys.length d) ys.length (ys.flatMap chC)) ∧ (∀ x ∈ xs, (Ch.path x).length ≤ 100000) ∧ (∀ x ∈ ys, (Ch.path x).length ≤ 100000) ∧
    done ++ bothB Ch.path Ch.path n xs ys = BB ∧ J done L ∧ L0 <:+ L ∧ Ent L wr
set_option maxRecDepth 100000 in
set_option maxHeartbeats 4000000 in
attribute [-go_sem] Instr.loadAt in
theorem both54_any {p1 p2 : Nat} {BB : List (Option Ch × Option Ch)} {J : List (Option Ch × Option Ch) → List HProp → Prop} {L0 : List HProp} {N : Nat}
    (hdo : ∀ done x y px py L w, (∃ r, done ++ (x, y) :: r = BB) → J done L → L0 <:+ L → Ent L w → ptrE L0 chC x px → ptrE L0 chC y py → Calls Tryd.prog 55 #[px, py, .pointer (some ⟨p1, 0, none⟩), .pointer (some ⟨p2, 0, none⟩)] w (Ret fun _ w' => ∃ L', J (done ++ [(x, y)]) L' ∧ L0 <:+ L' ∧ Ent L' w'))
    {xs : List Ch} {ys : List Ch} (hN : xs.length + ys.length ≤ N) (hBB : bothB Ch.path Ch.path N xs ys = BB) {ao bo : Option Addr} {c d : Nat} (hc : xs.length ≤ c) (hd : ys.length ≤ d) (hxl : ∀ x ∈ xs, (Ch.path x).length ≤ 100000) (hyl : ∀ x ∈ ys, (Ch.path x).length ≤ 100000)
    (hx : Knows L0 (reads (.slice ao xs.length c) xs.length (xs.flatMap chC))) (hy : Knows L0 (reads (.slice bo ys.length d) ys.length (ys.flatMap chC))) {L : List HProp} (hJ : J [] L) (hs : L0 <:+ L) {w : World} (hE : Ent L w) :
    Calls Tryd.prog 54 #[.slice ao xs.length c, .slice bo ys.length d, .func (.func 44) #[] #[], .func (.func 44) #[] #[], .func (.func 55) #[] #[.pointer (some ⟨p1, 0, none⟩), .pointer (some ⟨p2, 0, none⟩)]] w (Ret fun _ w' => ∃ L', J BB L' ∧ L0 <:+ L' ∧ Ent L' w') := by
  have Hdo := SL.hid hdo
  clear hdo
  go_enter Tryd.func54, Tryd.ntmps54
  go_wp2
  go_loopw [0, 1] (fun lo mo wr => BoRel54 N BB J L0 lo mo wr) (fun lo mo _ => lenV lo + lenV mo)
  case atStart => exact ⟨N, xs, ys, ao, bo, c, d, [], L, Nat.le_refl _, hN, rfl, rfl, hc, hd, hx, hy, hxl, hyl, hBB, hJ, hs, hE⟩
  case round =>
    clear hE hJ hs hx hy hxl hyl hc hd hBB hN
    clear ao bo c d xs ys L
    obtain ⟨n, xs, ys, ao, bo, c, d, done, L, hnN, hN, rfl, rfl, hc, hd, hx, hy, hxl, hyl, hBB, hJ, hs, hE⟩ := hrel
    cases xs with
    | nil =>
      cases ys with
      | nil =>
        have hz : done = BB := by
          rw [← hBB]
          cases n <;> simp [bothB]
        subst hz
        clear hBB hx hy
        go_wp2
        refine bodyPost_ret (results_none rfl _ _ _) rfl ?_
        exact ⟨_, rfl, L, hJ, hs, hE⟩
      | cons y ys =>
        obtain ⟨n, rfl⟩ : ∃ n', n = n' + 1 := ⟨n - 1, by simp at hN; omega⟩
        simp only [bothB] at hBB
        simp only [List.length_cons, List.length_nil] at hN hd
        obtain ⟨b_y, oy, rfl, hpy, hry, hsly, hldy⟩ := row_ch hd hy (hE.suf hs)
        simp only [List.length_cons, List.length_nil]
        have HX := SL.hid hx
        clear hx hy
        have g1 : (0 : Int) < (ys.length : Int) + 1 := by omega
        have g2 : ¬ ((ys.length : Int) + 1 = 0) := by omega
        go_wp2
        refine wp_region_held_drew (S := (fun _ => True)) (by kernel_rfl) trivial (fun hS => ?_)
        refine takeW 0 ⟨some 48, .move (.tmp 1), _, _, _, none⟩ ?_ (.inl ⟨by rfl, ?_⟩) hS ?_; rotate_left; · (intro _ _; go_simp; (try with_reducible rfl))
        try simp only [Act.put, sb, s0, sz]
        refine takeW 1 ⟨some 49, .indexAddr 30 (.tmp 48) (.const (.int .i64 0)), _, _, _, none⟩ ?_ (.inl ⟨by rfl, ?_⟩) hS ?_; rotate_left; · (intro _ _; go_simp; (try with_reducible rfl))
        try simp only [Act.put, sb, s0, sz]
        refine takeW 2 ⟨some 50, .move (.tmp 1), _, _, _, none⟩ ?_ (.inl ⟨by rfl, ?_⟩) hS ?_; rotate_left; · (intro _ _; go_simp; (try with_reducible rfl))
        try simp only [Act.put, sb, s0, sz]
        refine takeW 3 ⟨some 51, .slice 30 (.tmp 50) (some (.const (.int .i64 1))) none none, _, _, _, none⟩ ?_ (.inl ⟨by rfl, ?_⟩) hS ?_; rotate_left; · (intro _ _; go_simp; (try with_reducible rfl))
        try simp only [Act.put, sb, s0, sz]
        refine takeW 4 ⟨some 12, .assign (.tmp 49), _, _, _, none⟩ ?_ (.inl ⟨by rfl, ?_⟩) hS ?_; rotate_left; · (intro _ _; go_simp; (try with_reducible rfl))
        try simp only [Act.put, sb, s0, sz]
        refine takeW 5 ⟨some 1, .assign (.tmp 51), _, _, _, none⟩ ?_ (.inl ⟨by rfl, ?_⟩) hS ?_; rotate_left; · (intro _ _; go_simp; (try with_reducible rfl))
        try simp only [Act.put, sb, s0, sz]
        refine wpAnyH_done (by kernel_rfl) ?_ _
        all_goals
          clear hS
          replace hE := hE.drew
          go_wp2_with (first
            | go_skip
            | (go_at_call 55; refine (Hdo.out done none (some y) _ _ L _ ⟨_, hBB⟩ hJ hs hE rfl hpy).mono ?_; clear hE; rintro e w5 ⟨v, rfl, L', hJ', hs', hE⟩))
          go_roundw
          case rel => exact ⟨n, [], ys, _, _, _, _, done ++ [(none, (some y))], L', by omega, by (try simp only [List.length_cons, List.length_nil]); omega, rfl, rfl, by (try simp only [List.length_cons, List.length_nil]); omega, by (try simp only [List.length_cons, List.length_nil]); omega, HX.out, hry, hxl, fun z hz => hyl z (by simp [hz]), by rw [List.append_assoc]; exact hBB, hJ', hs', hE⟩
          case measure => simp [lenV] <;> omega
    | cons x xs =>
      cases ys with
      | nil =>
        obtain ⟨n, rfl⟩ : ∃ n', n = n' + 1 := ⟨n - 1, by simp at hN; omega⟩
        simp only [bothB] at hBB
        simp only [List.length_cons, List.length_nil] at hN hc
        obtain ⟨bx, ox, rfl, hpx, hrx, hslx, hldx⟩ := row_ch hc hx (hE.suf hs)
        simp only [List.length_cons, List.length_nil]
        have HY := SL.hid hy
        clear hx hy
        have g1 : (0 : Int) < (xs.length : Int) + 1 := by omega
        have g2 : ¬ ((xs.length : Int) + 1 = 0) := by omega
        go_wp2
        refine wp_region_held_drew (S := (fun _ => True)) (by kernel_rfl) trivial (fun hS => ?_)
        refine takeW 0 ⟨some 42, .move (.tmp 0), _, _, _, none⟩ ?_ (.inl ⟨by rfl, ?_⟩) hS ?_; rotate_left; · (intro _ _; go_simp; (try with_reducible rfl))
        try simp only [Act.put, sb, s0, sz]
        refine takeW 1 ⟨some 43, .indexAddr 30 (.tmp 42) (.const (.int .i64 0)), _, _, _, none⟩ ?_ (.inl ⟨by rfl, ?_⟩) hS ?_; rotate_left; · (intro _ _; go_simp; (try with_reducible rfl))
        try simp only [Act.put, sb, s0, sz]
        refine takeW 2 ⟨some 44, .move (.tmp 0), _, _, _, none⟩ ?_ (.inl ⟨by rfl, ?_⟩) hS ?_; rotate_left; · (intro _ _; go_simp; (try with_reducible rfl))
        try simp only [Act.put, sb, s0, sz]
        refine takeW 3 ⟨some 45, .slice 30 (.tmp 44) (some (.const (.int .i64 1))) none none, _, _, _, none⟩ ?_ (.inl ⟨by rfl, ?_⟩) hS ?_; rotate_left; · (intro _ _; go_simp; (try with_reducible rfl))
        try simp only [Act.put, sb, s0, sz]
        refine takeW 4 ⟨some 11, .assign (.tmp 43), _, _, _, none⟩ ?_ (.inl ⟨by rfl, ?_⟩) hS ?_; rotate_left; · (intro _ _; go_simp; (try with_reducible rfl))
        try simp only [Act.put, sb, s0, sz]
        refine takeW 5 ⟨some 0, .assign (.tmp 45), _, _, _, none⟩ ?_ (.inl ⟨by rfl, ?_⟩) hS ?_; rotate_left; · (intro _ _; go_simp; (try with_reducible rfl))
        try simp only [Act.put, sb, s0, sz]
        refine wpAnyH_done (by kernel_rfl) ?_ _
        all_goals
          clear hS
          replace hE := hE.drew
          go_wp2_with (first
            | go_skip
            | (go_at_call 55; refine (Hdo.out done (some x) none _ _ L _ ⟨_, hBB⟩ hJ hs hE hpx rfl).mono ?_; clear hE; rintro e w5 ⟨v, rfl, L', hJ', hs', hE⟩))
          go_roundw
          case rel => exact ⟨n, xs, [], _, _, _, _, done ++ [((some x), none)], L', by omega, by (try simp only [List.length_cons, List.length_nil]); omega, rfl, rfl, by (try simp only [List.length_cons, List.length_nil]); omega, by (try simp only [List.length_cons, List.length_nil]); omega, hrx, HY.out, fun z hz => hxl z (by simp [hz]), hyl, by rw [List.append_assoc]; exact hBB, hJ', hs', hE⟩
          case measure => simp [lenV] <;> omega
      | cons y ys =>
        obtain ⟨n, rfl⟩ : ∃ n', n = n' + 1 := ⟨n - 1, by simp at hN; omega⟩
        simp only [List.length_cons] at hN hc hd
        obtain ⟨bx, ox, rfl, hpx, hrx, hslx, hldx⟩ := row_ch hc hx (hE.suf hs)
        obtain ⟨b_y, oy, rfl, hpy, hry, hsly, hldy⟩ := row_ch hd hy (hE.suf hs)
        have HO := SL.hid (fun (w : World) (h : Ent L w) => Order_any (p := Ch.path x) (q := Ch.path y) (hxl x (by simp)) (hyl y (by simp)) h)
        simp only [List.length_cons]
        have HX := SL.hid hx
        have HY := SL.hid hy
        clear hx hy
        have g1 : (0 : Int) < (xs.length : Int) + 1 := by omega
        have g2 : ¬ ((xs.length : Int) + 1 = 0) := by omega
        have g3 : (0 : Int) < (ys.length : Int) + 1 := by omega
        have g4 : ¬ ((ys.length : Int) + 1 = 0) := by omega
        rcases ord_cases (Ch.path x) (Ch.path y) with ⟨ho, h1⟩ | ⟨ho, h1, h2⟩ | ⟨ho, h1, h2⟩
        · simp only [bothB, h1, if_true] at hBB
          rw [ho] at HO
          clear ho h1
          go_wp2
          have hO := hE.drew
          refine wp_region_held_drew (S := (fun w' => ((Instr.loadAt 65 (.pointer (some ⟨bx, ox, none⟩))).run Tryd.prog w' = .ok (.agg (chC x).toArray) w') ∧ ((Instr.loadAt 65 (.pointer (some ⟨b_y, oy, none⟩))).run Tryd.prog w' = .ok (.agg (chC y).toArray) w'))) (by kernel_rfl) ⟨(hldx _ (hO.suf hs)), (hldy _ (hO.suf hs))⟩ (fun hS => ?_)
          refine takeW 0 ⟨some 21, .move (.tmp 2), _, _, _, none⟩ ?_ (.inl ⟨by rfl, ?_⟩) hS ?_; rotate_left; · (intro _ _; go_simp; (try with_reducible rfl))
          try simp only [Act.put, sb, s0, sz]
          refine takeW 1 ⟨some 22, .move (.tmp 0), _, _, _, none⟩ ?_ (.inl ⟨by rfl, ?_⟩) hS ?_; rotate_left; · (intro _ _; go_simp; (try with_reducible rfl))
          try simp only [Act.put, sb, s0, sz]
          refine takeW 2 ⟨some 23, .indexAddr 30 (.tmp 22) (.const (.int .i64 0)), _, _, _, none⟩ ?_ (.inl ⟨by rfl, ?_⟩) hS ?_; rotate_left; · (intro _ _; go_simp; (try with_reducible rfl))
          try simp only [Act.put, sb, s0, sz]
          refine takeW 3 ⟨some 24, .load 65 (.tmp 23), _, _, _, none⟩ ?_ (.inl ⟨by rfl, ?_⟩) hS ?_; rotate_left; · (intro w hSw; (try dsimp only at hSw); go_simp; (try with_reducible rfl))
          try simp only [Act.put, sb, s0, sz]
          refine takeW 5 ⟨some 26, .move (.tmp 3), _, _, _, none⟩ ?_ (.inl ⟨by rfl, ?_⟩) hS ?_; rotate_left; · (intro _ _; go_simp; (try with_reducible rfl))
          try simp only [Act.put, sb, s0, sz]
          refine takeW 6 ⟨some 27, .move (.tmp 1), _, _, _, none⟩ ?_ (.inl ⟨by rfl, ?_⟩) hS ?_; rotate_left; · (intro _ _; go_simp; (try with_reducible rfl))
          try simp only [Act.put, sb, s0, sz]
          refine takeW 7 ⟨some 28, .indexAddr 30 (.tmp 27) (.const (.int .i64 0)), _, _, _, none⟩ ?_ (.inl ⟨by rfl, ?_⟩) hS ?_; rotate_left; · (intro _ _; go_simp; (try with_reducible rfl))
          try simp only [Act.put, sb, s0, sz]
          refine takeW 8 ⟨some 29, .load 65 (.tmp 28), _, _, _, none⟩ ?_ (.inl ⟨by rfl, ?_⟩) hS ?_; rotate_left; · (intro w hSw; (try dsimp only at hSw); go_simp; (try with_reducible rfl))
          try simp only [Act.put, sb, s0, sz]
          refine wpAnyH_ready (rs := [4]) (by kernel_rfl) (by simp) ?_
          refine (AllReadyH.cons (o := ⟨some 25, .call { callee := .value (.tmp 21), args := #[.tmp 24], argTypes := #[65] }, _, _, _, none⟩) rfl (fun K hK => ?_) AllReadyH.nil)
          (go_simp; refine (changed_any x hO).mono ?_; clear hO; rintro e w5 ⟨v, rfl, rfl, hO⟩)
          refine hK.out _ _ ⟨(hldx _ (hO.suf hs)), (hldy _ (hO.suf hs))⟩ (fun hS => ?_)
          clear hK K
          try simp only [Act.put, sb, s0, sz]
          refine wpAnyH_ready (rs := [9]) (by kernel_rfl) (by simp) ?_
          refine (AllReadyH.cons (o := ⟨some 30, .call { callee := .value (.tmp 26), args := #[.tmp 29], argTypes := #[65] }, _, _, _, none⟩) rfl (fun K hK => ?_) AllReadyH.nil)
          (go_simp; refine (changed_any y hO).mono ?_; clear hO; rintro e w5 ⟨v, rfl, rfl, hO⟩)
          refine hK.out _ _ ⟨(hldx _ (hO.suf hs)), (hldy _ (hO.suf hs))⟩ (fun hS => ?_)
          clear hK K
          try simp only [Act.put, sb, s0, sz]
          refine wpAnyH_ready (rs := [10]) (by kernel_rfl) (by simp) ?_
          refine (AllReadyH.cons (o := ⟨some 31, .call { callee := .value (.func 17), args := #[.tmp 25, .tmp 30], argTypes := #[9, 9] }, _, _, _, none⟩) rfl (fun K hK => ?_) AllReadyH.nil)
          (go_simp; refine (HO.out _ hO).mono ?_; clear hO; rintro e w5 ⟨v, rfl, rfl, hO⟩)
          refine hK.out _ _ ⟨(hldx _ (hO.suf hs)), (hldy _ (hO.suf hs))⟩ (fun hS => ?_)
          clear hK K
          try simp only [Act.put, sb, s0, sz]
          refine takeW 11 ⟨some 10, .assign (.tmp 31), _, _, _, none⟩ ?_ (.inl ⟨by rfl, ?_⟩) hS ?_; rotate_left; · (intro _ _; go_simp; (try with_reducible rfl))
          try simp only [Act.put, sb, s0, sz]
          refine wpAnyH_done (by kernel_rfl) ?_ _
          all_goals
            clear hS
            have hE := hO
            go_wp2
            refine wp_region_held_drew (S := (fun _ => True)) (by kernel_rfl) trivial (fun hS => ?_)
            refine takeW 0 ⟨some 42, .move (.tmp 0), _, _, _, none⟩ ?_ (.inl ⟨by rfl, ?_⟩) hS ?_; rotate_left; · (intro _ _; go_simp; (try with_reducible rfl))
            try simp only [Act.put, sb, s0, sz]
            refine takeW 1 ⟨some 43, .indexAddr 30 (.tmp 42) (.const (.int .i64 0)), _, _, _, none⟩ ?_ (.inl ⟨by rfl, ?_⟩) hS ?_; rotate_left; · (intro _ _; go_simp; (try with_reducible rfl))
            try simp only [Act.put, sb, s0, sz]
            refine takeW 2 ⟨some 44, .move (.tmp 0), _, _, _, none⟩ ?_ (.inl ⟨by rfl, ?_⟩) hS ?_; rotate_left; · (intro _ _; go_simp; (try with_reducible rfl))
            try simp only [Act.put, sb, s0, sz]
            refine takeW 3 ⟨some 45, .slice 30 (.tmp 44) (some (.const (.int .i64 1))) none none, _, _, _, none⟩ ?_ (.inl ⟨by rfl, ?_⟩) hS ?_; rotate_left; · (intro _ _; go_simp; (try with_reducible rfl))
            try simp only [Act.put, sb, s0, sz]
            refine takeW 4 ⟨some 11, .assign (.tmp 43), _, _, _, none⟩ ?_ (.inl ⟨by rfl, ?_⟩) hS ?_; rotate_left; · (intro _ _; go_simp; (try with_reducible rfl))
            try simp only [Act.put, sb, s0, sz]
            refine takeW 5 ⟨some 0, .assign (.tmp 45), _, _, _, none⟩ ?_ (.inl ⟨by rfl, ?_⟩) hS ?_; rotate_left; · (intro _ _; go_simp; (try with_reducible rfl))
            try simp only [Act.put, sb, s0, sz]
            refine wpAnyH_done (by kernel_rfl) ?_ _
            all_goals
              clear hS
              replace hE := hE.drew
              go_wp2_with (first
                | go_skip
                | (go_at_call 55; refine (Hdo.out done (some x) none _ _ L _ ⟨_, hBB⟩ hJ hs hE hpx rfl).mono ?_; clear hE; rintro e w5 ⟨v, rfl, L', hJ', hs', hE⟩))
              go_roundw
              case rel => exact ⟨n, xs, (y :: ys), _, _, _, _, done ++ [((some x), none)], L', by omega, by (try simp only [List.length_cons, List.length_nil]); omega, rfl, rfl, by (try simp only [List.length_cons, List.length_nil]); omega, by (try simp only [List.length_cons, List.length_nil]); omega, hrx, HY.out, fun z hz => hxl z (by simp [hz]), hyl, by rw [List.append_assoc]; exact hBB, hJ', hs', hE⟩
              case measure => simp [lenV] <;> omega
        · simp only [bothB, h1, h2, if_true, if_false, Bool.false_eq_true] at hBB
          rw [ho] at HO
          clear ho h1 h2
          go_wp2
          have hO := hE.drew
          refine wp_region_held_drew (S := (fun w' => ((Instr.loadAt 65 (.pointer (some ⟨bx, ox, none⟩))).run Tryd.prog w' = .ok (.agg (chC x).toArray) w') ∧ ((Instr.loadAt 65 (.pointer (some ⟨b_y, oy, none⟩))).run Tryd.prog w' = .ok (.agg (chC y).toArray) w'))) (by kernel_rfl) ⟨(hldx _ (hO.suf hs)), (hldy _ (hO.suf hs))⟩ (fun hS => ?_)
          refine takeW 0 ⟨some 21, .move (.tmp 2), _, _, _, none⟩ ?_ (.inl ⟨by rfl, ?_⟩) hS ?_; rotate_left; · (intro _ _; go_simp; (try with_reducible rfl))
          try simp only [Act.put, sb, s0, sz]
          refine takeW 1 ⟨some 22, .move (.tmp 0), _, _, _, none⟩ ?_ (.inl ⟨by rfl, ?_⟩) hS ?_; rotate_left; · (intro _ _; go_simp; (try with_reducible rfl))
          try simp only [Act.put, sb, s0, sz]
          refine takeW 2 ⟨some 23, .indexAddr 30 (.tmp 22) (.const (.int .i64 0)), _, _, _, none⟩ ?_ (.inl ⟨by rfl, ?_⟩) hS ?_; rotate_left; · (intro _ _; go_simp; (try with_reducible rfl))
          try simp only [Act.put, sb, s0, sz]
          refine takeW 3 ⟨some 24, .load 65 (.tmp 23), _, _, _, none⟩ ?_ (.inl ⟨by rfl, ?_⟩) hS ?_; rotate_left; · (intro w hSw; (try dsimp only at hSw); go_simp; (try with_reducible rfl))
          try simp only [Act.put, sb, s0, sz]
          refine takeW 5 ⟨some 26, .move (.tmp 3), _, _, _, none⟩ ?_ (.inl ⟨by rfl, ?_⟩) hS ?_; rotate_left; · (intro _ _; go_simp; (try with_reducible rfl))
          try simp only [Act.put, sb, s0, sz]
          refine takeW 6 ⟨some 27, .move (.tmp 1), _, _, _, none⟩ ?_ (.inl ⟨by rfl, ?_⟩) hS ?_; rotate_left; · (intro _ _; go_simp; (try with_reducible rfl))
          try simp only [Act.put, sb, s0, sz]
          refine takeW 7 ⟨some 28, .indexAddr 30 (.tmp 27) (.const (.int .i64 0)), _, _, _, none⟩ ?_ (.inl ⟨by rfl, ?_⟩) hS ?_; rotate_left; · (intro _ _; go_simp; (try with_reducible rfl))
          try simp only [Act.put, sb, s0, sz]
          refine takeW 8 ⟨some 29, .load 65 (.tmp 28), _, _, _, none⟩ ?_ (.inl ⟨by rfl, ?_⟩) hS ?_; rotate_left; · (intro w hSw; (try dsimp only at hSw); go_simp; (try with_reducible rfl))
          try simp only [Act.put, sb, s0, sz]
          refine wpAnyH_ready (rs := [4]) (by kernel_rfl) (by simp) ?_
          refine (AllReadyH.cons (o := ⟨some 25, .call { callee := .value (.tmp 21), args := #[.tmp 24], argTypes := #[65] }, _, _, _, none⟩) rfl (fun K hK => ?_) AllReadyH.nil)
          (go_simp; refine (changed_any x hO).mono ?_; clear hO; rintro e w5 ⟨v, rfl, rfl, hO⟩)
          refine hK.out _ _ ⟨(hldx _ (hO.suf hs)), (hldy _ (hO.suf hs))⟩ (fun hS => ?_)
          clear hK K
          try simp only [Act.put, sb, s0, sz]
          refine wpAnyH_ready (rs := [9]) (by kernel_rfl) (by simp) ?_
          refine (AllReadyH.cons (o := ⟨some 30, .call { callee := .value (.tmp 26), args := #[.tmp 29], argTypes := #[65] }, _, _, _, none⟩) rfl (fun K hK => ?_) AllReadyH.nil)
          (go_simp; refine (changed_any y hO).mono ?_; clear hO; rintro e w5 ⟨v, rfl, rfl, hO⟩)
          refine hK.out _ _ ⟨(hldx _ (hO.suf hs)), (hldy _ (hO.suf hs))⟩ (fun hS => ?_)
          clear hK K
          try simp only [Act.put, sb, s0, sz]
          refine wpAnyH_ready (rs := [10]) (by kernel_rfl) (by simp) ?_
          refine (AllReadyH.cons (o := ⟨some 31, .call { callee := .value (.func 17), args := #[.tmp 25, .tmp 30], argTypes := #[9, 9] }, _, _, _, none⟩) rfl (fun K hK => ?_) AllReadyH.nil)
          (go_simp; refine (HO.out _ hO).mono ?_; clear hO; rintro e w5 ⟨v, rfl, rfl, hO⟩)
          refine hK.out _ _ ⟨(hldx _ (hO.suf hs)), (hldy _ (hO.suf hs))⟩ (fun hS => ?_)
          clear hK K
          try simp only [Act.put, sb, s0, sz]
          refine takeW 11 ⟨some 10, .assign (.tmp 31), _, _, _, none⟩ ?_ (.inl ⟨by rfl, ?_⟩) hS ?_; rotate_left; · (intro _ _; go_simp; (try with_reducible rfl))
          try simp only [Act.put, sb, s0, sz]
          refine wpAnyH_done (by kernel_rfl) ?_ _
          all_goals
            clear hS
            have hE := hO
            go_wp2
            refine wp_region_held_drew (S := (fun _ => True)) (by kernel_rfl) trivial (fun hS => ?_)
            refine takeW 0 ⟨some 48, .move (.tmp 1), _, _, _, none⟩ ?_ (.inl ⟨by rfl, ?_⟩) hS ?_; rotate_left; · (intro _ _; go_simp; (try with_reducible rfl))
            try simp only [Act.put, sb, s0, sz]
            refine takeW 1 ⟨some 49, .indexAddr 30 (.tmp 48) (.const (.int .i64 0)), _, _, _, none⟩ ?_ (.inl ⟨by rfl, ?_⟩) hS ?_; rotate_left; · (intro _ _; go_simp; (try with_reducible rfl))
            try simp only [Act.put, sb, s0, sz]
            refine takeW 2 ⟨some 50, .move (.tmp 1), _, _, _, none⟩ ?_ (.inl ⟨by rfl, ?_⟩) hS ?_; rotate_left; · (intro _ _; go_simp; (try with_reducible rfl))
            try simp only [Act.put, sb, s0, sz]
            refine takeW 3 ⟨some 51, .slice 30 (.tmp 50) (some (.const (.int .i64 1))) none none, _, _, _, none⟩ ?_ (.inl ⟨by rfl, ?_⟩) hS ?_; rotate_left; · (intro _ _; go_simp; (try with_reducible rfl))
            try simp only [Act.put, sb, s0, sz]
            refine takeW 4 ⟨some 12, .assign (.tmp 49), _, _, _, none⟩ ?_ (.inl ⟨by rfl, ?_⟩) hS ?_; rotate_left; · (intro _ _; go_simp; (try with_reducible rfl))
            try simp only [Act.put, sb, s0, sz]
            refine takeW 5 ⟨some 1, .assign (.tmp 51), _, _, _, none⟩ ?_ (.inl ⟨by rfl, ?_⟩) hS ?_; rotate_left; · (intro _ _; go_simp; (try with_reducible rfl))
            try simp only [Act.put, sb, s0, sz]
            refine wpAnyH_done (by kernel_rfl) ?_ _
            all_goals
              clear hS
              replace hE := hE.drew
              go_wp2_with (first
                | go_skip
                | (go_at_call 55; refine (Hdo.out done none (some y) _ _ L _ ⟨_, hBB⟩ hJ hs hE rfl hpy).mono ?_; clear hE; rintro e w5 ⟨v, rfl, L', hJ', hs', hE⟩))
              go_roundw
              case rel => exact ⟨n, (x :: xs), ys, _, _, _, _, done ++ [(none, (some y))], L', by omega, by (try simp only [List.length_cons, List.length_nil]); omega, rfl, rfl, by (try simp only [List.length_cons, List.length_nil]); omega, by (try simp only [List.length_cons, List.length_nil]); omega, HX.out, hry, hxl, fun z hz => hyl z (by simp [hz]), by rw [List.append_assoc]; exact hBB, hJ', hs', hE⟩
              case measure => simp [lenV] <;> omega
        · simp only [bothB, h1, h2, if_false, Bool.false_eq_true] at hBB
          rw [ho] at HO
          clear ho h1 h2
          go_wp2
          have hO := hE.drew
          refine wp_region_held_drew (S := (fun w' => ((Instr.loadAt 65 (.pointer (some ⟨bx, ox, none⟩))).run Tryd.prog w' = .ok (.agg (chC x).toArray) w') ∧ ((Instr.loadAt 65 (.pointer (some ⟨b_y, oy, none⟩))).run Tryd.prog w' = .ok (.agg (chC y).toArray) w'))) (by kernel_rfl) ⟨(hldx _ (hO.suf hs)), (hldy _ (hO.suf hs))⟩ (fun hS => ?_)
          refine takeW 0 ⟨some 21, .move (.tmp 2), _, _, _, none⟩ ?_ (.inl ⟨by rfl, ?_⟩) hS ?_; rotate_left; · (intro _ _; go_simp; (try with_reducible rfl))
          try simp only [Act.put, sb, s0, sz]
          refine takeW 1 ⟨some 22, .move (.tmp 0), _, _, _, none⟩ ?_ (.inl ⟨by rfl, ?_⟩) hS ?_; rotate_left; · (intro _ _; go_simp; (try with_reducible rfl))
          try simp only [Act.put, sb, s0, sz]
          refine takeW 2 ⟨some 23, .indexAddr 30 (.tmp 22) (.const (.int .i64 0)), _, _, _, none⟩ ?_ (.inl ⟨by rfl, ?_⟩) hS ?_; rotate_left; · (intro _ _; go_simp; (try with_reducible rfl))
          try simp only [Act.put, sb, s0, sz]
          refine takeW 3 ⟨some 24, .load 65 (.tmp 23), _, _, _, none⟩ ?_ (.inl ⟨by rfl, ?_⟩) hS ?_; rotate_left; · (intro w hSw; (try dsimp only at hSw); go_simp; (try with_reducible rfl))
          try simp only [Act.put, sb, s0, sz]
          refine takeW 5 ⟨some 26, .move (.tmp 3), _, _, _, none⟩ ?_ (.inl ⟨by rfl, ?_⟩) hS ?_; rotate_left; · (intro _ _; go_simp; (try with_reducible rfl))
          try simp only [Act.put, sb, s0, sz]
          refine takeW 6 ⟨some 27, .move (.tmp 1), _, _, _, none⟩ ?_ (.inl ⟨by rfl, ?_⟩) hS ?_; rotate_left; · (intro _ _; go_simp; (try with_reducible rfl))
          try simp only [Act.put, sb, s0, sz]
          refine takeW 7 ⟨some 28, .indexAddr 30 (.tmp 27) (.const (.int .i64 0)), _, _, _, none⟩ ?_ (.inl ⟨by rfl, ?_⟩) hS ?_; rotate_left; · (intro _ _; go_simp; (try with_reducible rfl))
          try simp only [Act.put, sb, s0, sz]
          refine takeW 8 ⟨some 29, .load 65 (.tmp 28), _, _, _, none⟩ ?_ (.inl ⟨by rfl, ?_⟩) hS ?_; rotate_left; · (intro w hSw; (try dsimp only at hSw); go_simp; (try with_reducible rfl))
          try simp only [Act.put, sb, s0, sz]
          refine wpAnyH_ready (rs := [4]) (by kernel_rfl) (by simp) ?_
          refine (AllReadyH.cons (o := ⟨some 25, .call { callee := .value (.tmp 21), args := #[.tmp 24], argTypes := #[65] }, _, _, _, none⟩) rfl (fun K hK => ?_) AllReadyH.nil)
          (go_simp; refine (changed_any x hO).mono ?_; clear hO; rintro e w5 ⟨v, rfl, rfl, hO⟩)
          refine hK.out _ _ ⟨(hldx _ (hO.suf hs)), (hldy _ (hO.suf hs))⟩ (fun hS => ?_)
          clear hK K
          try simp only [Act.put, sb, s0, sz]
          refine wpAnyH_ready (rs := [9]) (by kernel_rfl) (by simp) ?_
          refine (AllReadyH.cons (o := ⟨some 30, .call { callee := .value (.tmp 26), args := #[.tmp 29], argTypes := #[65] }, _, _, _, none⟩) rfl (fun K hK => ?_) AllReadyH.nil)
          (go_simp; refine (changed_any y hO).mono ?_; clear hO; rintro e w5 ⟨v, rfl, rfl, hO⟩)
          refine hK.out _ _ ⟨(hldx _ (hO.suf hs)), (hldy _ (hO.suf hs))⟩ (fun hS => ?_)
          clear hK K
          try simp only [Act.put, sb, s0, sz]
          refine wpAnyH_ready (rs := [10]) (by kernel_rfl) (by simp) ?_
          refine (AllReadyH.cons (o := ⟨some 31, .call { callee := .value (.func 17), args := #[.tmp 25, .tmp 30], argTypes := #[9, 9] }, _, _, _, none⟩) rfl (fun K hK => ?_) AllReadyH.nil)
          (go_simp; refine (HO.out _ hO).mono ?_; clear hO; rintro e w5 ⟨v, rfl, rfl, hO⟩)
          refine hK.out _ _ ⟨(hldx _ (hO.suf hs)), (hldy _ (hO.suf hs))⟩ (fun hS => ?_)
          clear hK K
          try simp only [Act.put, sb, s0, sz]
          refine takeW 11 ⟨some 10, .assign (.tmp 31), _, _, _, none⟩ ?_ (.inl ⟨by rfl, ?_⟩) hS ?_; rotate_left; · (intro _ _; go_simp; (try with_reducible rfl))
          try simp only [Act.put, sb, s0, sz]
          refine wpAnyH_done (by kernel_rfl) ?_ _
          all_goals
            clear hS
            have hE := hO
            go_wp2
            refine wp_region_held_drew (S := (fun _ => True)) (by kernel_rfl) trivial (fun hS => ?_)
            refine takeW 0 ⟨some 42, .move (.tmp 0), _, _, _, none⟩ ?_ (.inl ⟨by rfl, ?_⟩) hS ?_; rotate_left; · (intro _ _; go_simp; (try with_reducible rfl))
            try simp only [Act.put, sb, s0, sz]
            refine takeW 1 ⟨some 43, .indexAddr 30 (.tmp 42) (.const (.int .i64 0)), _, _, _, none⟩ ?_ (.inl ⟨by rfl, ?_⟩) hS ?_; rotate_left; · (intro _ _; go_simp; (try with_reducible rfl))
            try simp only [Act.put, sb, s0, sz]
            refine takeW 2 ⟨some 44, .move (.tmp 0), _, _, _, none⟩ ?_ (.inl ⟨by rfl, ?_⟩) hS ?_; rotate_left; · (intro _ _; go_simp; (try with_reducible rfl))
            try simp only [Act.put, sb, s0, sz]
            refine takeW 3 ⟨some 45, .slice 30 (.tmp 44) (some (.const (.int .i64 1))) none none, _, _, _, none⟩ ?_ (.inl ⟨by rfl, ?_⟩) hS ?_; rotate_left; · (intro _ _; go_simp; (try with_reducible rfl))
            try simp only [Act.put, sb, s0, sz]
            refine takeW 4 ⟨some 11, .assign (.tmp 43), _, _, _, none⟩ ?_ (.inl ⟨by rfl, ?_⟩) hS ?_; rotate_left; · (intro _ _; go_simp; (try with_reducible rfl))
            try simp only [Act.put, sb, s0, sz]
            refine takeW 5 ⟨some 0, .assign (.tmp 45), _, _, _, none⟩ ?_ (.inl ⟨by rfl, ?_⟩) hS ?_; rotate_left; · (intro _ _; go_simp; (try with_reducible rfl))
            try simp only [Act.put, sb, s0, sz]
            refine wpAnyH_done (by kernel_rfl) ?_ _
            all_goals
              clear hS
              replace hE := hE.drew
              go_wp2
              refine wp_region_held_drew (S := (fun _ => True)) (by kernel_rfl) trivial (fun hS => ?_)
              refine takeW 0 ⟨some 48, .move (.tmp 1), _, _, _, none⟩ ?_ (.inl ⟨by rfl, ?_⟩) hS ?_; rotate_left; · (intro _ _; go_simp; (try with_reducible rfl))
              try simp only [Act.put, sb, s0, sz]
              refine takeW 1 ⟨some 49, .indexAddr 30 (.tmp 48) (.const (.int .i64 0)), _, _, _, none⟩ ?_ (.inl ⟨by rfl, ?_⟩) hS ?_; rotate_left; · (intro _ _; go_simp; (try with_reducible rfl))
              try simp only [Act.put, sb, s0, sz]
              refine takeW 2 ⟨some 50, .move (.tmp 1), _, _, _, none⟩ ?_ (.inl ⟨by rfl, ?_⟩) hS ?_; rotate_left; · (intro _ _; go_simp; (try with_reducible rfl))
              try simp only [Act.put, sb, s0, sz]
              refine takeW 3 ⟨some 51, .slice 30 (.tmp 50) (some (.const (.int .i64 1))) none none, _, _, _, none⟩ ?_ (.inl ⟨by rfl, ?_⟩) hS ?_; rotate_left; · (intro _ _; go_simp; (try with_reducible rfl))
              try simp only [Act.put, sb, s0, sz]
              refine takeW 4 ⟨some 12, .assign (.tmp 49), _, _, _, none⟩ ?_ (.inl ⟨by rfl, ?_⟩) hS ?_; rotate_left; · (intro _ _; go_simp; (try with_reducible rfl))
              try simp only [Act.put, sb, s0, sz]
              refine takeW 5 ⟨some 1, .assign (.tmp 51), _, _, _, none⟩ ?_ (.inl ⟨by rfl, ?_⟩) hS ?_; rotate_left; · (intro _ _; go_simp; (try with_reducible rfl))
              try simp only [Act.put, sb, s0, sz]
              refine wpAnyH_done (by kernel_rfl) ?_ _
              all_goals
                clear hS
                replace hE := hE.drew
                go_wp2_with (first
                  | go_skip
                  | (go_at_call 55; refine (Hdo.out done (some x) (some y) _ _ L _ ⟨_, hBB⟩ hJ hs hE hpx hpy).mono ?_; clear hE; rintro e w5 ⟨v, rfl, L', hJ', hs', hE⟩))
                go_roundw
                case rel => exact ⟨n, xs, ys, _, _, _, _, done ++ [((some x), (some y))], L', by omega, by (try simp only [List.length_cons, List.length_nil]); omega, rfl, rfl, by (try simp only [List.length_cons, List.length_nil]); omega, by (try simp only [List.length_cons, List.length_nil]); omega, hrx, hry, fun z hz => hxl z (by simp [hz]), fun z hz => hyl z (by simp [hz]), by rw [List.append_assoc]; exact hBB, hJ', hs', hE⟩
                case measure => simp [lenV] <;> omega
end Go.Proofs.YtcpgelpajppgdaaDoor
namespace Go.Proofs.YtcpgelpajppgdaaDoor
open Go.RowKit Go.SL

def BoRel30 (N : Nat) (BB : List (Option En × Option En)) (J : List (Option En × Option En) → List HProp → Prop) (L0 : List HProp) (lo mo : Value) (wr : World) : Prop :=
  ∃ (n : Nat) (xs : List En) (ys : List En) (ao bo : Option Addr) (c d : Nat) (done : List (Option En × Option En)) (L : List HProp), n ≤ N ∧ xs.length + ys.length ≤ n ∧ lo = .slice ao xs.length c ∧ mo = .slice bo ys.length d ∧ xs.length ≤ c ∧ ys.length ≤ d ∧
    Knows L0 (reads (.slice ao xs.length c) xs.length (xs.flatMap enC)) ∧ Knows L0 (reads (.slice bo ys.length d) ys.length (ys.flatMap enC)) ∧ (∀ x ∈ xs, (En.path x).length ≤ 100000) ∧ (∀ x ∈ ys, (En.path x).length ≤ 100000) ∧
    done ++ bothB En.path En.path n xs ys = BB ∧ J done L ∧ L0 <:+ L ∧ Ent L wr
set_option maxRecDepth 100000 in
set_option maxHeartbeats 4000000 in
attribute [-go_sem] Instr.loadAt in
theorem both30_any {p1 : Nat} {BB : List (Option En × Option En)} {J : List (Option En × Option En) → List HProp → Prop} {L0 : List HProp} {N : Nat}
    (hdo : ∀ done x y px py L w, (∃ r, done ++ (x, y) :: r = BB) → J done L → L0 <:+ L → Ent L w → ptrE L0 enC x px → ptrE L0 enC y py → Calls Tryd.prog 32 #[px, py, .pointer (some ⟨p1, 0, none⟩)] w (Ret fun _ w' => ∃ L', J (done ++ [(x, y)]) L' ∧ L0 <:+ L' ∧ Ent L' w'))
    {xs : List En} {ys : List En} (hN : xs.length + ys.length ≤ N) (hBB : bothB En.path En.path N xs ys = BB) {ao bo : Option Addr} {c d : Nat} (hc : xs.length ≤ c) (hd : ys.length ≤ d) (hxl : ∀ x ∈ xs, (En.path x).length ≤ 100000) (hyl : ∀ x ∈ ys, (En.path x).length ≤ 100000)
    (hx : Knows L0 (reads (.slice ao xs.length c) xs.length (xs.flatMap enC))) (hy : Knows L0 (reads (.slice bo ys.length d) ys.length (ys.flatMap enC))) {L : List HProp} (hJ : J [] L) (hs : L0 <:+ L) {w : World} (hE : Ent L w) :
    Calls Tryd.prog 30 #[.slice ao xs.length c, .slice bo ys.length d, .func (.func 31) #[] #[], .func (.func 31) #[] #[], .func (.func 32) #[] #[.pointer (some ⟨p1, 0, none⟩)]] w (Ret fun _ w' => ∃ L', J BB L' ∧ L0 <:+ L' ∧ Ent L' w') := by
  have Hdo := SL.hid hdo
  clear hdo
  go_enter Tryd.func30, Tryd.ntmps30
  go_wp2
  go_loopw [0, 1] (fun lo mo wr => BoRel30 N BB J L0 lo mo wr) (fun lo mo _ => lenV lo + lenV mo)
  case atStart => exact ⟨N, xs, ys, ao, bo, c, d, [], L, Nat.le_refl _, hN, rfl, rfl, hc, hd, hx, hy, hxl, hyl, hBB, hJ, hs, hE⟩
  case round =>
    clear hE hJ hs hx hy hxl hyl hc hd hBB hN
    clear ao bo c d xs ys L
    obtain ⟨n, xs, ys, ao, bo, c, d, done, L, hnN, hN, rfl, rfl, hc, hd, hx, hy, hxl, hyl, hBB, hJ, hs, hE⟩ := hrel
    cases xs with
    | nil =>
      cases ys with
      | nil =>
        have hz : done = BB := by
          rw [← hBB]
          cases n <;> simp [bothB]
        subst hz
        clear hBB hx hy
        go_wp2
        refine bodyPost_ret (results_none rfl _ _ _) rfl ?_
        exact ⟨_, rfl, L, hJ, hs, hE⟩
      | cons y ys =>
        obtain ⟨n, rfl⟩ : ∃ n', n = n' + 1 := ⟨n - 1, by simp at hN; omega⟩
        simp only [bothB] at hBB
        simp only [List.length_cons, List.length_nil] at hN hd
        obtain ⟨b_y, oy, rfl, hpy, hry, hsly, hldy⟩ := row_en hd hy (hE.suf hs)
        simp only [List.length_cons, List.length_nil]
        have HX := SL.hid hx
        clear hx hy
        have g1 : (0 : Int) < (ys.length : Int) + 1 := by omega
        have g2 : ¬ ((ys.length : Int) + 1 = 0) := by omega
        go_wp2
        refine wp_region_held_drew (S := (fun _ => True)) (by kernel_rfl) trivial (fun hS => ?_)
        refine takeW 0 ⟨some 48, .move (.tmp 1), _, _, _, none⟩ ?_ (.inl ⟨by rfl, ?_⟩) hS ?_; rotate_left; · (intro _ _; go_simp; (try with_reducible rfl))
        try simp only [Act.put, sb, s0, sz]
        refine takeW 1 ⟨some 49, .indexAddr 22 (.tmp 48) (.const (.int .i64 0)), _, _, _, none⟩ ?_ (.inl ⟨by rfl, ?_⟩) hS ?_; rotate_left; · (intro _ _; go_simp; (try with_reducible rfl))
        try simp only [Act.put, sb, s0, sz]
        refine takeW 2 ⟨some 50, .move (.tmp 1), _, _, _, none⟩ ?_ (.inl ⟨by rfl, ?_⟩) hS ?_; rotate_left; · (intro _ _; go_simp; (try with_reducible rfl))
        try simp only [Act.put, sb, s0, sz]
        refine takeW 3 ⟨some 51, .slice 22 (.tmp 50) (some (.const (.int .i64 1))) none none, _, _, _, none⟩ ?_ (.inl ⟨by rfl, ?_⟩) hS ?_; rotate_left; · (intro _ _; go_simp; (try with_reducible rfl))
        try simp only [Act.put, sb, s0, sz]
        refine takeW 4 ⟨some 12, .assign (.tmp 49), _, _, _, none⟩ ?_ (.inl ⟨by rfl, ?_⟩) hS ?_; rotate_left; · (intro _ _; go_simp; (try with_reducible rfl))
        try simp only [Act.put, sb, s0, sz]
        refine takeW 5 ⟨some 1, .assign (.tmp 51), _, _, _, none⟩ ?_ (.inl ⟨by rfl, ?_⟩) hS ?_; rotate_left; · (intro _ _; go_simp; (try with_reducible rfl))
        try simp only [Act.put, sb, s0, sz]
        refine wpAnyH_done (by kernel_rfl) ?_ _
        all_goals
          clear hS
          replace hE := hE.drew
          go_wp2_with (first
            | go_skip
            | (go_at_call 32; refine (Hdo.out done none (some y) _ _ L _ ⟨_, hBB⟩ hJ hs hE rfl hpy).mono ?_; clear hE; rintro e w5 ⟨v, rfl, L', hJ', hs', hE⟩))
          go_roundw
          case rel => exact ⟨n, [], ys, _, _, _, _, done ++ [(none, (some y))], L', by omega, by (try simp only [List.length_cons, List.length_nil]); omega, rfl, rfl, by (try simp only [List.length_cons, List.length_nil]); omega, by (try simp only [List.length_cons, List.length_nil]); omega, HX.out, hry, hxl, fun z hz => hyl z (by simp [hz]), by rw [List.append_assoc]; exact hBB, hJ', hs', hE⟩
          case measure => simp [lenV] <;> omega
    | cons x xs =>
      cases ys with
      | nil =>
        obtain ⟨n, rfl⟩ : ∃ n', n = n' + 1 := ⟨n - 1, by simp at hN; omega⟩
        simp only [bothB] at hBB
        simp only [List.length_cons, List.length_nil] at hN hc
        obtain ⟨bx, ox, rfl, hpx, hrx, hslx, hldx⟩ := row_en hc hx (hE.suf hs)
        simp only [List.length_cons, List.length_nil]
        have HY := SL.hid hy
        clear hx hy
        have g1 : (0 : Int) < (xs.length : Int) + 1 := by omega
        have g2 : ¬ ((xs.length : Int) + 1 = 0) := by omega
        go_wp2
        refine wp_region_held_drew (S := (fun _ => True)) (by kernel_rfl) trivial (fun hS => ?_)
        refine takeW 0 ⟨some 42, .move (.tmp 0), _, _, _, none⟩ ?_ (.inl ⟨by rfl, ?_⟩) hS ?_; rotate_left; · (intro _ _; go_simp; (try with_reducible rfl))
        try simp only [Act.put, sb, s0, sz]
        refine takeW 1 ⟨some 43, .indexAddr 22 (.tmp 42) (.const (.int .i64 0)), _, _, _, none⟩ ?_ (.inl ⟨by rfl, ?_⟩) hS ?_; rotate_left; · (intro _ _; go_simp; (try with_reducible rfl))
        try simp only [Act.put, sb, s0, sz]
        refine takeW 2 ⟨some 44, .move (.tmp 0), _, _, _, none⟩ ?_ (.inl ⟨by rfl, ?_⟩) hS ?_; rotate_left; · (intro _ _; go_simp; (try with_reducible rfl))
        try simp only [Act.put, sb, s0, sz]
        refine takeW 3 ⟨some 45, .slice 22 (.tmp 44) (some (.const (.int .i64 1))) none none, _, _, _, none⟩ ?_ (.inl ⟨by rfl, ?_⟩) hS ?_; rotate_left; · (intro _ _; go_simp; (try with_reducible rfl))
        try simp only [Act.put, sb, s0, sz]
        refine takeW 4 ⟨some 11, .assign (.tmp 43), _, _, _, none⟩ ?_ (.inl ⟨by rfl, ?_⟩) hS ?_; rotate_left; · (intro _ _; go_simp; (try with_reducible rfl))
        try simp only [Act.put, sb, s0, sz]
        refine takeW 5 ⟨some 0, .assign (.tmp 45), _, _, _, none⟩ ?_ (.inl ⟨by rfl, ?_⟩) hS ?_; rotate_left; · (intro _ _; go_simp; (try with_reducible rfl))
        try simp only [Act.put, sb, s0, sz]
        refine wpAnyH_done (by kernel_rfl) ?_ _
        all_goals
          clear hS
          replace hE := hE.drew
          go_wp2_with (first
            | go_skip
            | (go_at_call 32; refine (Hdo.out done (some x) none _ _ L _ ⟨_, hBB⟩ hJ hs hE hpx rfl).mono ?_; clear hE; rintro e w5 ⟨v, rfl, L', hJ', hs', hE⟩))
          go_roundw
          case rel => exact ⟨n, xs, [], _, _, _, _, done ++ [((some x), none)], L', by omega, by (try simp only [List.length_cons, List.length_nil]); omega, rfl, rfl, by (try simp only [List.length_cons, List.length_nil]); omega, by (try simp only [List.length_cons, List.length_nil]); omega, hrx, HY.out, fun z hz => hxl z (by simp [hz]), hyl, by rw [List.append_assoc]; exact hBB, hJ', hs', hE⟩
          case measure => simp [lenV] <;> omega
      | cons y ys =>
        obtain ⟨n, rfl⟩ : ∃ n', n = n' + 1 := ⟨n - 1, by simp at hN; omega⟩
        simp only [List.length_cons] at hN hc hd
        obtain ⟨bx, ox, rfl, hpx, hrx, hslx, hldx⟩ := row_en hc hx (hE.suf hs)
        obtain ⟨b_y, oy, rfl, hpy, hry, hsly, hldy⟩ := row_en hd hy (hE.suf hs)
        have HO := SL.hid (fun (w : World) (h : Ent L w) => Order_any (p := En.path x) (q := En.path y) (hxl x (by simp)) (hyl y (by simp)) h)
        simp only [List.length_cons]
        have HX := SL.hid hx
        have HY := SL.hid hy
        clear hx hy
        have g1 : (0 : Int) < (xs.length : Int) + 1 := by omega
        have g2 : ¬ ((xs.length : Int) + 1 = 0) := by omega
        have g3 : (0 : Int) < (ys.length : Int) + 1 := by omega
        have g4 : ¬ ((ys.length : Int) + 1 = 0) := by omega
        rcases ord_cases (En.path x) (En.path y) with ⟨ho, h1⟩ | ⟨ho, h1, h2⟩ | ⟨ho, h1, h2⟩
        · simp only [bothB, h1, if_true] at hBB
          rw [ho] at HO
          clear ho h1
          go_wp2
          have hO := hE.drew
          refine wp_region_held_drew (S := (fun w' => ((Instr.loadAt 63 (.pointer (some ⟨bx, ox, none⟩))).run Tryd.prog w' = .ok (.agg (enC x).toArray) w') ∧ ((Instr.loadAt 63 (.pointer (some ⟨b_y, oy, none⟩))).run Tryd.prog w' = .ok (.agg (enC y).toArray) w'))) (by kernel_rfl) ⟨(hldx _ (hO.suf hs)), (hldy _ (hO.suf hs))⟩ (fun hS => ?_)
          refine takeW 0 ⟨some 21, .move (.tmp 2), _, _, _, none⟩ ?_ (.inl ⟨by rfl, ?_⟩) hS ?_; rotate_left; · (intro _ _; go_simp; (try with_reducible rfl))
          try simp only [Act.put, sb, s0, sz]
          refine takeW 1 ⟨some 22, .move (.tmp 0), _, _, _, none⟩ ?_ (.inl ⟨by rfl, ?_⟩) hS ?_; rotate_left; · (intro _ _; go_simp; (try with_reducible rfl))
          try simp only [Act.put, sb, s0, sz]
          refine takeW 2 ⟨some 23, .indexAddr 22 (.tmp 22) (.const (.int .i64 0)), _, _, _, none⟩ ?_ (.inl ⟨by rfl, ?_⟩) hS ?_; rotate_left; · (intro _ _; go_simp; (try with_reducible rfl))
          try simp only [Act.put, sb, s0, sz]
          refine takeW 3 ⟨some 24, .load 63 (.tmp 23), _, _, _, none⟩ ?_ (.inl ⟨by rfl, ?_⟩) hS ?_; rotate_left; · (intro w hSw; (try dsimp only at hSw); go_simp; (try with_reducible rfl))
          try simp only [Act.put, sb, s0, sz]
          refine takeW 5 ⟨some 26, .move (.tmp 3), _, _, _, none⟩ ?_ (.inl ⟨by rfl, ?_⟩) hS ?_; rotate_left; · (intro _ _; go_simp; (try with_reducible rfl))
          try simp only [Act.put, sb, s0, sz]
          refine takeW 6 ⟨some 27, .move (.tmp 1), _, _, _, none⟩ ?_ (.inl ⟨by rfl, ?_⟩) hS ?_; rotate_left; · (intro _ _; go_simp; (try with_reducible rfl))
          try simp only [Act.put, sb, s0, sz]
          refine takeW 7 ⟨some 28, .indexAddr 22 (.tmp 27) (.const (.int .i64 0)), _, _, _, none⟩ ?_ (.inl ⟨by rfl, ?_⟩) hS ?_; rotate_left; · (intro _ _; go_simp; (try with_reducible rfl))
          try simp only [Act.put, sb, s0, sz]
          refine takeW 8 ⟨some 29, .load 63 (.tmp 28), _, _, _, none⟩ ?_ (.inl ⟨by rfl, ?_⟩) hS ?_; rotate_left; · (intro w hSw; (try dsimp only at hSw); go_simp; (try with_reducible rfl))
          try simp only [Act.put, sb, s0, sz]
          refine wpAnyH_ready (rs := [4]) (by kernel_rfl) (by simp) ?_
          refine (AllReadyH.cons (o := ⟨some 25, .call { callee := .value (.tmp 21), args := #[.tmp 24], argTypes := #[63] }, _, _, _, none⟩) rfl (fun K hK => ?_) AllReadyH.nil)
          (go_simp; refine (pathOf_any x hO).mono ?_; clear hO; rintro e w5 ⟨v, rfl, rfl, hO⟩)
          refine hK.out _ _ ⟨(hldx _ (hO.suf hs)), (hldy _ (hO.suf hs))⟩ (fun hS => ?_)
          clear hK K
          try simp only [Act.put, sb, s0, sz]
          refine wpAnyH_ready (rs := [9]) (by kernel_rfl) (by simp) ?_
          refine (AllReadyH.cons (o := ⟨some 30, .call { callee := .value (.tmp 26), args := #[.tmp 29], argTypes := #[63] }, _, _, _, none⟩) rfl (fun K hK => ?_) AllReadyH.nil)
          (go_simp; refine (pathOf_any y hO).mono ?_; clear hO; rintro e w5 ⟨v, rfl, rfl, hO⟩)
          refine hK.out _ _ ⟨(hldx _ (hO.suf hs)), (hldy _ (hO.suf hs))⟩ (fun hS => ?_)
          clear hK K
          try simp only [Act.put, sb, s0, sz]
          refine wpAnyH_ready (rs := [10]) (by kernel_rfl) (by simp) ?_
          refine (AllReadyH.cons (o := ⟨some 31, .call { callee := .value (.func 17), args := #[.tmp 25, .tmp 30], argTypes := #[9, 9] }, _, _, _, none⟩) rfl (fun K hK => ?_) AllReadyH.nil)
          (go_simp; refine (HO.out _ hO).mono ?_; clear hO; rintro e w5 ⟨v, rfl, rfl, hO⟩)
          refine hK.out _ _ ⟨(hldx _ (hO.suf hs)), (hldy _ (hO.suf hs))⟩ (fun hS => ?_)
          clear hK K
          try simp only [Act.put, sb, s0, sz]
          refine takeW 11 ⟨some 10, .assign (.tmp 31), _, _, _, none⟩ ?_ (.inl ⟨by rfl, ?_⟩) hS ?_; rotate_left; · (intro _ _; go_simp; (try with_reducible rfl))
          try simp only [Act.put, sb, s0, sz]
          refine wpAnyH_done (by kernel_rfl) ?_ _
          all_goals
            clear hS
            have hE := hO
            go_wp2
            refine wp_region_held_drew (S := (fun _ => True)) (by kernel_rfl) trivial (fun hS => ?_)
            refine takeW 0 ⟨some 42, .move (.tmp 0), _, _, _, none⟩ ?_ (.inl ⟨by rfl, ?_⟩) hS ?_; rotate_left; · (intro _ _; go_simp; (try with_reducible rfl))
            try simp only [Act.put, sb, s0, sz]
            refine takeW 1 ⟨some 43, .indexAddr 22 (.tmp 42) (.const (.int .i64 0)), _, _, _, none⟩ ?_ (.inl ⟨by rfl, ?_⟩) hS ?_; rotate_left; · (intro _ _; go_simp; (try with_reducible rfl))
            try simp only [Act.put, sb, s0, sz]
            refine takeW 2 ⟨some 44, .move (.tmp 0), _, _, _, none⟩ ?_ (.inl ⟨by rfl, ?_⟩) hS ?_; rotate_left; · (intro _ _; go_simp; (try with_reducible rfl))
            try simp only [Act.put, sb, s0, sz]
            refine takeW 3 ⟨some 45, .slice 22 (.tmp 44) (some (.const (.int .i64 1))) none none, _, _, _, none⟩ ?_ (.inl ⟨by rfl, ?_⟩) hS ?_; rotate_left; · (intro _ _; go_simp; (try with_reducible rfl))
            try simp only [Act.put, sb, s0, sz]
            refine takeW 4 ⟨some 11, .assign (.tmp 43), _, _, _, none⟩ ?_ (.inl ⟨by rfl, ?_⟩) hS ?_; rotate_left; · (intro _ _; go_simp; (try with_reducible rfl))
            try simp only [Act.put, sb, s0, sz]
            refine takeW 5 ⟨some 0, .assign (.tmp 45), _, _, _, none⟩ ?_ (.inl ⟨by rfl, ?_⟩) hS ?_; rotate_left; · (intro _ _; go_simp; (try with_reducible rfl))
            try simp only [Act.put, sb, s0, sz]
            refine wpAnyH_done (by kernel_rfl) ?_ _
            all_goals
              clear hS
              replace hE := hE.drew
              go_wp2_with (first
                | go_skip
                | (go_at_call 32; refine (Hdo.out done (some x) none _ _ L _ ⟨_, hBB⟩ hJ hs hE hpx rfl).mono ?_; clear hE; rintro e w5 ⟨v, rfl, L', hJ', hs', hE⟩))
              go_roundw
              case rel => exact ⟨n, xs, (y :: ys), _, _, _, _, done ++ [((some x), none)], L', by omega, by (try simp only [List.length_cons, List.length_nil]); omega, rfl, rfl, by (try simp only [List.length_cons, List.length_nil]); omega, by (try simp only [List.length_cons, List.length_nil]); omega, hrx, HY.out, fun z hz => hxl z (by simp [hz]), hyl, by rw [List.append_assoc]; exact hBB, hJ', hs', hE⟩
              case measure => simp [lenV] <;> omega
        · simp only [bothB, h1, h2, if_true, if_false, Bool.false_eq_true] at hBB
          rw [ho] at HO
          clear ho h1 h2
          go_wp2
          have hO := hE.drew
          refine wp_region_held_drew (S := (fun w' => ((Instr.loadAt 63 (.pointer (some ⟨bx, ox, none⟩))).run Tryd.prog w' = .ok (.agg (enC x).toArray) w') ∧ ((Instr.loadAt 63 (.pointer (some ⟨b_y, oy, none⟩))).run Tryd.prog w' = .ok (.agg (enC y).toArray) w'))) (by kernel_rfl) ⟨(hldx _ (hO.suf hs)), (hldy _ (hO.suf hs))⟩ (fun hS => ?_)
          refine takeW 0 ⟨some 21, .move (.tmp 2), _, _, _, none⟩ ?_ (.inl ⟨by rfl, ?_⟩) hS ?_; rotate_left; · (intro _ _; go_simp; (try with_reducible rfl))
          try simp only [Act.put, sb, s0, sz]
          refine takeW 1 ⟨some 22, .move (.tmp 0), _, _, _, none⟩ ?_ (.inl ⟨by rfl, ?_⟩) hS ?_; rotate_left; · (intro _ _; go_simp; (try with_reducible rfl))
          try simp only [Act.put, sb, s0, sz]
          refine takeW 2 ⟨some 23, .indexAddr 22 (.tmp 22) (.const (.int .i64 0)), _, _, _, none⟩ ?_ (.inl ⟨by rfl, ?_⟩) hS ?_; rotate_left; · (intro _ _; go_simp; (try with_reducible rfl))
          try simp only [Act.put, sb, s0, sz]
          refine takeW 3 ⟨some 24, .load 63 (.tmp 23), _, _, _, none⟩ ?_ (.inl ⟨by rfl, ?_⟩) hS ?_; rotate_left; · (intro w hSw; (try dsimp only at hSw); go_simp; (try with_reducible rfl))
          try simp only [Act.put, sb, s0, sz]
          refine takeW 5 ⟨some 26, .move (.tmp 3), _, _, _, none⟩ ?_ (.inl ⟨by rfl, ?_⟩) hS ?_; rotate_left; · (intro _ _; go_simp; (try with_reducible rfl))
          try simp only [Act.put, sb, s0, sz]
          refine takeW 6 ⟨some 27, .move (.tmp 1), _, _, _, none⟩ ?_ (.inl ⟨by rfl, ?_⟩) hS ?_; rotate_left; · (intro _ _; go_simp; (try with_reducible rfl))
          try simp only [Act.put, sb, s0, sz]
          refine takeW 7 ⟨some 28, .indexAddr 22 (.tmp 27) (.const (.int .i64 0)), _, _, _, none⟩ ?_ (.inl ⟨by rfl, ?_⟩) hS ?_; rotate_left; · (intro _ _; go_simp; (try with_reducible rfl))
          try simp only [Act.put, sb, s0, sz]
          refine takeW 8 ⟨some 29, .load 63 (.tmp 28), _, _, _, none⟩ ?_ (.inl ⟨by rfl, ?_⟩) hS ?_; rotate_left; · (intro w hSw; (try dsimp only at hSw); go_simp; (try with_reducible rfl))
          try simp only [Act.put, sb, s0, sz]
          refine wpAnyH_ready (rs := [4]) (by kernel_rfl) (by simp) ?_
          refine (AllReadyH.cons (o := ⟨some 25, .call { callee := .value (.tmp 21), args := #[.tmp 24], argTypes := #[63] }, _, _, _, none⟩) rfl (fun K hK => ?_) AllReadyH.nil)
          (go_simp; refine (pathOf_any x hO).mono ?_; clear hO; rintro e w5 ⟨v, rfl, rfl, hO⟩)
          refine hK.out _ _ ⟨(hldx _ (hO.suf hs)), (hldy _ (hO.suf hs))⟩ (fun hS => ?_)
          clear hK K
          try simp only [Act.put, sb, s0, sz]
          refine wpAnyH_ready (rs := [9]) (by kernel_rfl) (by simp) ?_
          refine (AllReadyH.cons (o := ⟨some 30, .call { callee := .value (.tmp 26), args := #[.tmp 29], argTypes := #[63] }, _, _, _, none⟩) rfl (fun K hK => ?_) AllReadyH.nil)
          (go_simp; refine (pathOf_any y hO).mono ?_; clear hO; rintro e w5 ⟨v, rfl, rfl, hO⟩)
          refine hK.out _ _ ⟨(hldx _ (hO.suf hs)), (hldy _ (hO.suf hs))⟩ (fun hS => ?_)
          clear hK K
          try simp only [Act.put, sb, s0, sz]
          refine wpAnyH_ready (rs := [10]) (by kernel_rfl) (by simp) ?_
          refine (AllReadyH.cons (o := ⟨some 31, .call { callee := .value (.func 17), args := #[.tmp 25, .tmp 30], argTypes := #[9, 9] }, _, _, _, none⟩) rfl (fun K hK => ?_) AllReadyH.nil)
          (go_simp; refine (HO.out _ hO).mono ?_; clear hO; rintro e w5 ⟨v, rfl, rfl, hO⟩)
          refine hK.out _ _ ⟨(hldx _ (hO.suf hs)), (hldy _ (hO.suf hs))⟩ (fun hS => ?_)
          clear hK K
          try simp only [Act.put, sb, s0, sz]
          refine takeW 11 ⟨some 10, .assign (.tmp 31), _, _, _, none⟩ ?_ (.inl ⟨by rfl, ?_⟩) hS ?_; rotate_left; · (intro _ _; go_simp; (try with_reducible rfl))
          try simp only [Act.put, sb, s0, sz]
          refine wpAnyH_done (by kernel_rfl) ?_ _
          all_goals
            clear hS
            have hE := hO
            go_wp2
            refine wp_region_held_drew (S := (fun _ => True)) (by kernel_rfl) trivial (fun hS => ?_)
            refine takeW 0 ⟨some 48, .move (.tmp 1), _, _, _, none⟩ ?_ (.inl ⟨by rfl, ?_⟩) hS ?_; rotate_left; · (intro _ _; go_simp; (try with_reducible rfl))
            try simp only [Act.put, sb, s0, sz]
            refine takeW 1 ⟨some 49, .indexAddr 22 (.tmp 48) (.const (.int .i64 0)), _, _, _, none⟩ ?_ (.inl ⟨by rfl, ?_⟩) hS ?_; rotate_left; · (intro _ _; go_simp; (try with_reducible rfl))
            try simp only [Act.put, sb, s0, sz]
            refine takeW 2 ⟨some 50, .move (.tmp 1), _, _, _, none⟩ ?_ (.inl ⟨by rfl, ?_⟩) hS ?_; rotate_left; · (intro _ _; go_simp; (try with_reducible rfl))
            try simp only [Act.put, sb, s0, sz]
            refine takeW 3 ⟨some 51, .slice 22 (.tmp 50) (some (.const (.int .i64 1))) none none, _, _, _, none⟩ ?_ (.inl ⟨by rfl, ?_⟩) hS ?_; rotate_left; · (intro _ _; go_simp; (try with_reducible rfl))
            try simp only [Act.put, sb, s0, sz]
            refine takeW 4 ⟨some 12, .assign (.tmp 49), _, _, _, none⟩ ?_ (.inl ⟨by rfl, ?_⟩) hS ?_; rotate_left; · (intro _ _; go_simp; (try with_reducible rfl))
            try simp only [Act.put, sb, s0, sz]
            refine takeW 5 ⟨some 1, .assign (.tmp 51), _, _, _, none⟩ ?_ (.inl ⟨by rfl, ?_⟩) hS ?_; rotate_left; · (intro _ _; go_simp; (try with_reducible rfl))
            try simp only [Act.put, sb, s0, sz]
            refine wpAnyH_done (by kernel_rfl) ?_ _
            all_goals
              clear hS
              replace hE := hE.drew
              go_wp2_with (first
                | go_skip
                | (go_at_call 32; refine (Hdo.out done none (some y) _ _ L _ ⟨_, hBB⟩ hJ hs hE rfl hpy).mono ?_; clear hE; rintro e w5 ⟨v, rfl, L', hJ', hs', hE⟩))
              go_roundw
              case rel => exact ⟨n, (x :: xs), ys, _, _, _, _, done ++ [(none, (some y))], L', by omega, by (try simp only [List.length_cons, List.length_nil]); omega, rfl, rfl, by (try simp only [List.length_cons, List.length_nil]); omega, by (try simp only [List.length_cons, List.length_nil]); omega, HX.out, hry, hxl, fun z hz => hyl z (by simp [hz]), by rw [List.append_assoc]; exact hBB, hJ', hs', hE⟩
              case measure => simp [lenV] <;> omega
        · simp only [bothB, h1, h2, if_false, Bool.false_eq_true] at hBB
          rw [ho] at HO
          clear ho h1 h2
          go_wp2
          have hO := hE.drew
          refine wp_region_held_drew (S := (fun w' => ((Instr.loadAt 63 (.pointer (some ⟨bx, ox, none⟩))).run Tryd.prog w' = .ok (.agg (enC x).toArray) w') ∧ ((Instr.loadAt 63 (.pointer (some ⟨b_y, oy, none⟩))).run Tryd.prog w' = .ok (.agg (enC y).toArray) w'))) (by kernel_rfl) ⟨(hldx _ (hO.suf hs)), (hldy _ (hO.suf hs))⟩ (fun hS => ?_)
          refine takeW 0 ⟨some 21, .move (.tmp 2), _, _, _, none⟩ ?_ (.inl ⟨by rfl, ?_⟩) hS ?_; rotate_left; · (intro _ _; go_simp; (try with_reducible rfl))
          try simp only [Act.put, sb, s0, sz]
          refine takeW 1 ⟨some 22, .move (.tmp 0), _, _, _, none⟩ ?_ (.inl ⟨by rfl, ?_⟩) hS ?_; rotate_left; · (intro _ _; go_simp; (try with_reducible rfl))
          try simp only [Act.put, sb, s0, sz]
          refine takeW 2 ⟨some 23, .indexAddr 22 (.tmp 22) (.const (.int .i64 0)), _, _, _, none⟩ ?_ (.inl ⟨by rfl, ?_⟩) hS ?_; rotate_left; · (intro _ _; go_simp; (try with_reducible rfl))
          try simp only [Act.put, sb, s0, sz]
          refine takeW 3 ⟨some 24, .load 63 (.tmp 23), _, _, _, none⟩ ?_ (.inl ⟨by rfl, ?_⟩) hS ?_; rotate_left; · (intro w hSw; (try dsimp only at hSw); go_simp; (try with_reducible rfl))
          try simp only [Act.put, sb, s0, sz]
          refine takeW 5 ⟨some 26, .move (.tmp 3), _, _, _, none⟩ ?_ (.inl ⟨by rfl, ?_⟩) hS ?_; rotate_left; · (intro _ _; go_simp; (try with_reducible rfl))
          try simp only [Act.put, sb, s0, sz]
          refine takeW 6 ⟨some 27, .move (.tmp 1), _, _, _, none⟩ ?_ (.inl ⟨by rfl, ?_⟩) hS ?_; rotate_left; · (intro _ _; go_simp; (try with_reducible rfl))
          try simp only [Act.put, sb, s0, sz]
          refine takeW 7 ⟨some 28, .indexAddr 22 (.tmp 27) (.const (.int .i64 0)), _, _, _, none⟩ ?_ (.inl ⟨by rfl, ?_⟩) hS ?_; rotate_left; · (intro _ _; go_simp; (try with_reducible rfl))
          try simp only [Act.put, sb, s0, sz]
          refine takeW 8 ⟨some 29, .load 63 (.tmp 28), _, _, _, none⟩ ?_ (.inl ⟨by rfl, ?_⟩) hS ?_; rotate_left; · (intro w hSw; (try dsimp only at hSw); go_simp; (try with_reducible rfl))
          try simp only [Act.put, sb, s0, sz]
          refine wpAnyH_ready (rs := [4]) (by kernel_rfl) (by simp) ?_
          refine (AllReadyH.cons (o := ⟨some 25, .call { callee := .value (.tmp 21), args := #[.tmp 24], argTypes := #[63] }, _, _, _, none⟩) rfl (fun K hK => ?_) AllReadyH.nil)
          (go_simp; refine (pathOf_any x hO).mono ?_; clear hO; rintro e w5 ⟨v, rfl, rfl, hO⟩)
          refine hK.out _ _ ⟨(hldx _ (hO.suf hs)), (hldy _ (hO.suf hs))⟩ (fun hS => ?_)
          clear hK K
          try simp only [Act.put, sb, s0, sz]
          refine wpAnyH_ready (rs := [9]) (by kernel_rfl) (by simp) ?_
          refine (AllReadyH.cons (o := ⟨some 30, .call { callee := .value (.tmp 26), args := #[.tmp 29], argTypes := #[63] }, _, _, _, none⟩) rfl (fun K hK => ?_) AllReadyH.nil)
          (go_simp; refine (pathOf_any y hO).mono ?_; clear hO; rintro e w5 ⟨v, rfl, rfl, hO⟩)
          refine hK.out _ _ ⟨(hldx _ (hO.suf hs)), (hldy _ (hO.suf hs))⟩ (fun hS => ?_)
          clear hK K
          try simp only [Act.put, sb, s0, sz]
          refine wpAnyH_ready (rs := [10]) (by kernel_rfl) (by simp) ?_
          refine (AllReadyH.cons (o := ⟨some 31, .call { callee := .value (.func 17), args := #[.tmp 25, .tmp 30], argTypes := #[9, 9] }, _, _, _, none⟩) rfl (fun K hK => ?_) AllReadyH.nil)
          (go_simp; refine (HO.out _ hO).mono ?_; clear hO; rintro e w5 ⟨v, rfl, rfl, hO⟩)
          refine hK.out _ _ ⟨(hldx _ (hO.suf hs)), (hldy _ (hO.suf hs))⟩ (fun hS => ?_)
          clear hK K
          try simp only [Act.put, sb, s0, sz]
          refine takeW 11 ⟨some 10, .assign (.tmp 31), _, _, _, none⟩ ?_ (.inl ⟨by rfl, ?_⟩) hS ?_; rotate_left; · (intro _ _; go_simp; (try with_reducible rfl))
          try simp only [Act.put, sb, s0, sz]
          refine wpAnyH_done (by kernel_rfl) ?_ _
          all_goals
            clear hS
            have hE := hO
            go_wp2
            refine wp_region_held_drew (S := (fun _ => True)) (by kernel_rfl) trivial (fun hS => ?_)
            refine takeW 0 ⟨some 42, .move (.tmp 0), _, _, _, none⟩ ?_ (.inl ⟨by rfl, ?_⟩) hS ?_; rotate_left; · (intro _ _; go_simp; (try with_reducible rfl))
            try simp only [Act.put, sb, s0, sz]
            refine takeW 1 ⟨some 43, .indexAddr 22 (.tmp 42) (.const (.int .i64 0)), _, _, _, none⟩ ?_ (.inl ⟨by rfl, ?_⟩) hS ?_; rotate_left; · (intro _ _; go_simp; (try with_reducible rfl))
            try simp only [Act.put, sb, s0, sz]
            refine takeW 2 ⟨some 44, .move (.tmp 0), _, _, _, none⟩ ?_ (.inl ⟨by rfl, ?_⟩) hS ?_; rotate_left; · (intro _ _; go_simp; (try with_reducible rfl))
            try simp only [Act.put, sb, s0, sz]
            refine takeW 3 ⟨some 45, .slice 22 (.tmp 44) (some (.const (.int .i64 1))) none none, _, _, _, none⟩ ?_ (.inl ⟨by rfl, ?_⟩) hS ?_; rotate_left; · (intro _ _; go_simp; (try with_reducible rfl))
            try simp only [Act.put, sb, s0, sz]
            refine takeW 4 ⟨some 11, .assign (.tmp 43), _, _, _, none⟩ ?_ (.inl ⟨by rfl, ?_⟩) hS ?_; rotate_left; · (intro _ _; go_simp; (try with_reducible rfl))
            try simp only [Act.put, sb, s0, sz]
            refine takeW 5 ⟨some 0, .assign (.tmp 45), _, _, _, none⟩ ?_ (.inl ⟨by rfl, ?_⟩) hS ?_; rotate_left; · (intro _ _; go_simp; (try with_reducible rfl))
            try simp only [Act.put, sb, s0, sz]
            refine wpAnyH_done (by kernel_rfl) ?_ _
            all_goals
              clear hS
              replace hE := hE.drew
              go_wp2
              refine wp_region_held_drew (S := (fun _ => True)) (by kernel_rfl) trivial (fun hS => ?_)
              refine takeW 0 ⟨some 48, .move (.tmp 1), _, _, _, none⟩ ?_ (.inl ⟨by rfl, ?_⟩) hS ?_; rotate_left; · (intro _ _; go_simp; (try with_reducible rfl))
              try simp only [Act.put, sb, s0, sz]
              refine takeW 1 ⟨some 49, .indexAddr 22 (.tmp 48) (.const (.int .i64 0)), _, _, _, none⟩ ?_ (.inl ⟨by rfl, ?_⟩) hS ?_; rotate_left; · (intro _ _; go_simp; (try with_reducible rfl))
              try simp only [Act.put, sb, s0, sz]
              refine takeW 2 ⟨some 50, .move (.tmp 1), _, _, _, none⟩ ?_ (.inl ⟨by rfl, ?_⟩) hS ?_; rotate_left; · (intro _ _; go_simp; (try with_reducible rfl))
              try simp only [Act.put, sb, s0, sz]
              refine takeW 3 ⟨some 51, .slice 22 (.tmp 50) (some (.const (.int .i64 1))) none none, _, _, _, none⟩ ?_ (.inl ⟨by rfl, ?_⟩) hS ?_; rotate_left; · (intro _ _; go_simp; (try with_reducible rfl))
              try simp only [Act.put, sb, s0, sz]
              refine takeW 4 ⟨some 12, .assign (.tmp 49), _, _, _, none⟩ ?_ (.inl ⟨by rfl, ?_⟩) hS ?_; rotate_left; · (intro _ _; go_simp; (try with_reducible rfl))
              try simp only [Act.put, sb, s0, sz]
              refine takeW 5 ⟨some 1, .assign (.tmp 51), _, _, _, none⟩ ?_ (.inl ⟨by rfl, ?_⟩) hS ?_; rotate_left; · (intro _ _; go_simp; (try with_reducible rfl))
              try simp only [Act.put, sb, s0, sz]
              refine wpAnyH_done (by kernel_rfl) ?_ _
              all_goals
                clear hS
                replace hE := hE.drew
                go_wp2_with (first
                  | go_skip
                  | (go_at_call 32; refine (Hdo.out done (some x) (some y) _ _ L _ ⟨_, hBB⟩ hJ hs hE hpx hpy).mono ?_; clear hE; rintro e w5 ⟨v, rfl, L', hJ', hs', hE⟩))
                go_roundw
                case rel => exact ⟨n, xs, ys, _, _, _, _, done ++ [((some x), (some y))], L', by omega, by (try simp only [List.length_cons, List.length_nil]); omega, rfl, rfl, by (try simp only [List.length_cons, List.length_nil]); omega, by (try simp only [List.length_cons, List.length_nil]); omega, hrx, hry, fun z hz => hxl z (by simp [hz]), fun z hz => hyl z (by simp [hz]), by rw [List.append_assoc]; exact hBB, hJ', hs', hE⟩
                case measure => simp [lenV] <;> omega
end Go.Proofs.YtcpgelpajppgdaaDoor
namespace Go.Proofs.YtcpgelpajppgdaaDoor
open Go.RowKit Go.SL

theorem ent_len {t : Tr} (hw : Tr.Wf 6 t) {y : En} (hy : y ∈ entT 6 [] t) : y.path.length ≤ 3606 := by
  obtain ⟨s, k, hs, hg, rfl⟩ := (entT_mem hw).1 hy
  obtain ⟨hqa, hq6⟩ := get_names hw hg
  have := joinP_len s (fun x hx => by
    have := List.all_eq_true.1 hqa x hx
    simp only [isName, Bool.and_eq_true, decide_eq_true_eq] at this
    omega)
  simp only [List.nil_append]
  omega
theorem both_len {α β : Type} (f : α → List UInt8) (g : β → List UInt8) : ∀ n l m, (bothB f g n l m).length ≤ n
  | 0, _, _ => by simp [bothB]
  | n + 1, [], [] => by simp [bothB]
  | n + 1, [], y :: m => by have := both_len f g n [] m; simp only [bothB, List.length_cons]; omega
  | n + 1, x :: l, [] => by have := both_len f g n l []; simp only [bothB, List.length_cons]; omega
  | n + 1, x :: l, y :: m => by
    have h1 := both_len f g n l (y :: m)
    have h2 := both_len f g n (x :: l) m
    have h3 := both_len f g n l m
    simp only [bothB]
    split
    · simp only [List.length_cons]; omega
    · split <;> (simp only [List.length_cons]; omega)
theorem both_some {α β : Type} (f : α → List UInt8) (g : β → List UInt8) : ∀ n l m p, p ∈ bothB f g n l m → p.1 ≠ none ∨ p.2 ≠ none
  | 0, _, _, p, h => by simp [bothB] at h
  | n + 1, [], [], p, h => by simp [bothB] at h
  | n + 1, [], y :: m, p, h => by
    simp only [bothB, List.mem_cons] at h
    rcases h with rfl | h
    · exact .inr (by simp)
    · exact both_some f g n [] m p h
  | n + 1, x :: l, [], p, h => by
    simp only [bothB, List.mem_cons] at h
    rcases h with rfl | h
    · exact .inl (by simp)
    · exact both_some f g n l [] p h
  | n + 1, x :: l, y :: m, p, h => by
    simp only [bothB] at h
    split at h
    · rcases List.mem_cons.1 h with rfl | h
      · exact .inl (by simp)
      · exact both_some f g n l (y :: m) p h
    · split at h
      · rcases List.mem_cons.1 h with rfl | h
        · exact .inr (by simp)
        · exact both_some f g n (x :: l) m p h
      · rcases List.mem_cons.1 h with rfl | h
        · exact .inl (by simp)
        · exact both_some f g n l m p h
/-- what one pair does to the row -/
def JD (p1 : Nat) (L0 : List HProp) (done : List (Option En × Option En)) (L : List HProp) : Prop := ∃ ao c out, out = done.filterMap diffO ∧ L = pt p1 (.cells #[.slice ao out.length c] 30) :: rowCh ao c out :: L0
theorem JD_do {p1 : Nat} {L0 : List HProp} {BB : List (Option En × Option En)} (hB : BB.length ≤ 1000000) (hs : ∀ p ∈ BB, p.1 ≠ none ∨ p.2 ≠ none) : ∀ done x y px py L w, (∃ r, done ++ (x, y) :: r = BB) → JD p1 L0 done L → L0 <:+ L → Ent L w → ptrE L0 enC x px → ptrE L0 enC y py →
    Calls Tryd.prog 32 #[px, py, .pointer (some ⟨p1, 0, none⟩)] w (Ret fun _ w' => ∃ L', JD p1 L0 (done ++ [(x, y)]) L' ∧ L0 <:+ L' ∧ Ent L' w') := by
  rintro done x y px py L w ⟨r, hr⟩ ⟨ao, c, out, hout, rfl⟩ _ hE hx hy
  have hn : out.length ≤ 1000000 := by
    have h1 := List.length_filterMap_le diffO done
    have h2 := congrArg List.length hr
    rw [List.length_append] at h2
    rw [hout]
    omega
  have hxy := hs (x, y) (by rw [← hr]; simp)
  have fin : ∀ w', D1Post p1 (out ++ (diffO (x, y)).toList) L0 w' → ∃ L', JD p1 L0 (done ++ [(x, y)]) L' ∧ L0 <:+ L' ∧ Ent L' w' := by
    rintro w' ⟨a7, c7, h⟩
    refine ⟨_, ⟨a7, c7, out ++ (diffO (x, y)).toList, ?_, rfl⟩, (List.suffix_cons _ _).trans (List.suffix_cons _ _), h⟩
    rw [List.filterMap_append, ← hout]
    cases h : diffO (x, y) <;> simp [h]
  cases x with
  | none =>
    cases y with
    | none => simp at hxy
    | some b =>
      subst hx
      obtain ⟨b_y, oy, rfl, hy⟩ := hy
      refine (diff1_y hy hn hE).mono ?_
      rintro e w' ⟨v, rfl, h⟩
      exact ⟨v, rfl, fin _ h⟩
  | some a =>
    obtain ⟨bx, ox, rfl, hx⟩ := hx
    cases y with
    | none =>
      subst hy
      refine (diff1_x hx hn hE).mono ?_
      rintro e w' ⟨v, rfl, h⟩
      exact ⟨v, rfl, fin _ h⟩
    | some b =>
      obtain ⟨b_y, oy, rfl, hy⟩ := hy
      refine (diff1_xy hx hy hn hE).mono ?_
      rintro e w' ⟨v, rfl, h⟩
      exact ⟨v, rfl, fin _ h⟩
theorem Ent.out2 {A B P : HProp} {m n R : List HProp} {w : World} (h : Ent (A :: (m ++ (B :: (n ++ (P :: R))))) w) : Ent (P :: (A :: (m ++ (B :: (n ++ R))))) w := by
  have e1 : A :: (m ++ (B :: (n ++ (P :: R)))) = (A :: m ++ B :: n) ++ P :: R := by simp
  have e2 : A :: (m ++ (B :: (n ++ R))) = (A :: m ++ B :: n) ++ R := by simp
  rw [e1] at h
  rw [e2]
  exact h.perm List.perm_middle
theorem Ent.group2 {X A B P Q : HProp} {m n l : List HProp} {w : World} (h : Ent (X :: A :: (m ++ (B :: (n ++ (P :: Q :: l))))) w) : ∃ M, Ent (X :: (M ++ l)) w := ⟨A :: (m ++ (B :: (n ++ [P, Q]))), by simpa using h⟩
set_option maxRecDepth 100000 in
set_option maxHeartbeats 2000000 in
attribute [-go_sem] Instr.loadAt in
theorem Diff_any {t u : Tr} (ht : Tr.Wf 6 t) (hu : Tr.Wf 6 u) (hnt : (entT 6 [] t).length ≤ 100000) (hnu : (entT 6 [] u).length ≤ 100000) {kv lv : Value} {l : List HProp} (hkv : KidsAt l kv t.kids) (hlv : KidsAt l lv u.kids) {w : World} (hE : Ent l w) :
    Calls Tryd.prog 11 #[nodeV t kv, nodeV u lv] w (Ret fun v w' => ∃ ao c m, v = .slice ao (diffP (entT 6 [] t) (entT 6 [] u)).length c ∧ Ent (rowCh ao c (diffP (entT 6 [] t) (entT 6 [] u)) :: (m ++ l)) w') := by
  have H1 := SL.hid (fun (L : List HProp) (w : World) (hk : KidsAt L kv t.kids) (h : Ent L w) => Entries_any ht (by decide) hk (by omega) h)
  have H2 := SL.hid (fun (L : List HProp) (w : World) (hk : KidsAt L lv u.kids) (h : Ent L w) => Entries_any hu (by decide) hk (by omega) h)
  have hdp := diff_prog (Nat.le_refl _) (ent_rise ht) (ent_rise hu)
  have hle : ∀ x ∈ entT 6 [] t, x.path.length ≤ 100000 := fun x hx => by have := ent_len ht hx; omega
  have hlf : ∀ x ∈ entT 6 [] u, x.path.length ≤ 100000 := fun x hx => by have := ent_len hu hx; omega
  generalize entT 6 [] t = es at *
  generalize entT 6 [] u = fs at *
  generalize diffP es fs = ds at *
  obtain ⟨BB, hBB⟩ : ∃ BB, bothB En.path En.path (es.length + fs.length) es fs = BB := ⟨_, rfl⟩
  have HB := SL.hid (fun (L0 L : List HProp) (p1 : Nat) (ao bo : Option Addr) (c d : Nat) hc hd hx hy hs (w : World) (hE : Ent L w) (hJ : JD p1 L0 [] L) => both30_any (p1 := p1) (L0 := L0) (J := JD p1 L0) (ao := ao) (bo := bo) (c := c) (d := d) (JD_do (by rw [← hBB]; have := both_len En.path En.path (es.length + fs.length) es fs; omega) (by rw [← hBB]; exact both_some _ _ _ _ _)) (Nat.le_refl _) hBB hc hd hle hlf hx hy hJ hs hE)
  rw [hBB] at hdp
  have Hdp := SL.hid hdp
  clear hdp hBB hle hlf hnt hnu ht hu
  unfold nodeV at *
  go_enter Tryd.func11, Tryd.ntmps11
  go_wp2_with (first
    | go_skip
    | ((with_reducible (show Go.wpList _ _ _ (Go.Oper.mk _ (.box 25 (.tmp 0)) _ _ _ _ :: _) _ _)); refine wpl_box hE rfl rfl rfl ?_; clear hE; intro b2 w hE; simp only [Act.eval, Act.put, List.setIfInBounds_toArray, List.set_cons_zero, List.set_cons_succ, getD_lit, List.getD_cons_succ, List.getD_cons_zero, Value.cells] at hE)
    | ((with_reducible (show Go.wpList _ _ _ (Go.Oper.mk _ (.box _ _) _ _ _ _ :: _) _ _)); refine wpl_box hE rfl rfl rfl ?_; clear hE; intro b3 w hE; simp only [Act.eval, Act.put, List.setIfInBounds_toArray, List.set_cons_zero, List.set_cons_succ, getD_lit, List.getD_cons_succ, List.getD_cons_zero, Value.cells] at hE)
    | ((with_reducible (show Go.wpList _ _ _ (Go.Oper.mk _ (.alloc _) _ _ _ _ :: _) _ _)); refine wpl_alloc hE rfl rfl (by simp [go_sem]; rfl) ?_; clear hE; intro b5 w hE; simp only [Act.eval, Act.put, List.setIfInBounds_toArray, List.set_cons_zero, List.set_cons_succ, getD_lit, List.getD_cons_succ, List.getD_cons_zero, Value.cells] at hE))
  have hO := hE.drew
  have F2 := SL.hid (show ∀ w, Ent (pt b3 (.cells #[.bool u.dir, .string ⟨u.data.toArray⟩, lv] 25) :: pt b2 (.cells #[.bool t.dir, .string ⟨t.data.toArray⟩, kv] 25) :: l) w → (Instr.loadAt 25 (.pointer (some ⟨b2, 0, none⟩))).run Tryd.prog w = .ok (.agg #[.bool t.dir, .string ⟨t.data.toArray⟩, kv]) w from fun w h => atWm h (by repeat (first | exact List.Mem.head _ | refine List.Mem.tail _ ?_)) Tryd.isAgg25 Tryd.sizeOf25 rfl)
  have F3 := SL.hid (show ∀ w, Ent (pt b3 (.cells #[.bool u.dir, .string ⟨u.data.toArray⟩, lv] 25) :: pt b2 (.cells #[.bool t.dir, .string ⟨t.data.toArray⟩, kv] 25) :: l) w → (Instr.loadAt 25 (.pointer (some ⟨b3, 0, none⟩))).run Tryd.prog w = .ok (.agg #[.bool u.dir, .string ⟨u.data.toArray⟩, lv]) w from fun w h => atWm h (by repeat (first | exact List.Mem.head _ | refine List.Mem.tail _ ?_)) Tryd.isAgg25 Tryd.sizeOf25 rfl)
  have HK1 := SL.hid hkv
  have HK2 := SL.hid hlv
  clear hkv hlv
  have A1 := SL.hid True.intro
  refine wp_region_held_drew (S := (fun w' => ((Instr.loadAt 25 (.pointer (some ⟨b2, 0, none⟩))).run Tryd.prog w' = .ok (.agg #[.bool t.dir, .string ⟨t.data.toArray⟩, kv]) w') ∧ ((Instr.loadAt 25 (.pointer (some ⟨b3, 0, none⟩))).run Tryd.prog w' = .ok (.agg #[.bool u.dir, .string ⟨u.data.toArray⟩, lv]) w'))) (by kernel_rfl) ⟨(F2.out _ (hO.suf sfx)), (F3.out _ (hO.suf sfx))⟩ (fun hS => ?_)
  refine takeW 0 ⟨some 6, .load 25 (.tmp 2), _, _, _, none⟩ ?_ (.inl ⟨by rfl, ?_⟩) hS ?_; rotate_left; · (intro w hSw; (try dsimp only at hSw); go_simp; (try with_reducible rfl))
  try simp only [Act.put, sb, s0, sz]
  refine takeW 2 ⟨some 8, .load 25 (.tmp 3), _, _, _, none⟩ ?_ (.inl ⟨by rfl, ?_⟩) hS ?_; rotate_left; · (intro w hSw; (try dsimp only at hSw); go_simp; (try with_reducible rfl))
  try simp only [Act.put, sb, s0, sz]
  refine takeW 4 ⟨some 10, .makeFunc (Go.Fn.func 32) #[] #[.tmp 5], _, _, _, none⟩ ?_ (.inl ⟨by rfl, ?_⟩) hS ?_; rotate_left; · (intro _ _; go_simp; (try with_reducible rfl))
  try simp only [Act.put, sb, s0, sz]
  refine wpAnyH_ready (rs := [1]) (by kernel_rfl) (by simp) ?_
  refine (AllReadyH.cons (o := ⟨some 7, .call { callee := .value (.func 23), args := #[.tmp 6], argTypes := #[25] }, _, _, _, none⟩) rfl (fun K hK => ?_) AllReadyH.nil)
  (go_simp; refine (H1.out _ _ (HK1.out.suf sfx) hO).mono ?_; clear hO; rintro e w5 ⟨v, h1, a1, c1, m1, h2, hO⟩; cases h1; cases h2)
  refine hK.out _ _ ⟨(F2.out _ (hO.suf sfx)), (F3.out _ (hO.suf sfx))⟩ (fun hS => ?_)
  clear hK K
  try simp only [Act.put, sb, s0, sz]
  refine wpAnyH_ready (rs := [3]) (by kernel_rfl) (by simp) ?_
  refine (AllReadyH.cons (o := ⟨some 9, .call { callee := .value (.func 23), args := #[.tmp 8], argTypes := #[25] }, _, _, _, none⟩) rfl (fun K hK => ?_) AllReadyH.nil)
  (go_simp; refine (H2.out _ _ (HK2.out.suf sfx) hO).mono ?_; clear hO; rintro e w5 ⟨v, h1, a2, c2, m2, h2, hO⟩; cases h1; cases h2)
  refine hK.out _ _ ⟨(F2.out _ (hO.suf sfx)), (F3.out _ (hO.suf sfx))⟩ (fun hS => ?_)
  clear hK K
  try simp only [Act.put, sb, s0, sz]
  refine wpAnyH_ready (rs := [5]) (by kernel_rfl) (by simp) ?_
  refine (AllReadyH.cons (o := ⟨some 11, .call { callee := .value (.func 30), args := #[.tmp 7, .tmp 9, .func 31, .func 31, .tmp 10], argTypes := #[22, 22, 69, 69, 72] }, _, _, _, none⟩) rfl (fun K hK => ?_) AllReadyH.nil)
  (go_simp; have hO := hO; have hQ := ((Ent.out2 hO).nil 65 7).front 1 rfl; simp only [List.eraseIdx_cons_succ, List.eraseIdx_cons_zero] at hQ; refine (HB.out (rowEn a2 c2 fs :: (m2 ++ (rowEn a1 c1 es :: (m1 ++ (pt b3 (.cells #[.bool u.dir, .string ⟨u.data.toArray⟩, lv] 25) :: pt b2 (.cells #[.bool t.dir, .string ⟨t.data.toArray⟩, kv] 25) :: l))))) _ b5 a1 a2 c1 c2 (row_capQ hO.tail.drop 0 rfl) (row_capQ hO 0 rfl) (fun w h => reads_row h.tail.drop 0 rfl) (fun w h => reads_row h 0 rfl) ((List.suffix_cons _ _).trans (List.suffix_cons _ _)) _ hQ ⟨none, 0, [], rfl, rfl⟩).mono ?_; clear hQ; rintro e w5 ⟨v, h1, L9, ⟨a3, c3, out, h2, h3⟩, h4, hQ⟩; cases h1; cases h3; cases h2)
  refine hK.out _ _ ⟨(F2.out _ (hQ.suf sfx)), (F3.out _ (hQ.suf sfx))⟩ (fun hS => ?_)
  clear hK K
  try simp only [Act.put, sb, s0, sz]
  refine wpAnyH_done (by kernel_rfl) ?_ _
  all_goals
    clear hS
    rw [show BB.filterMap diffO = ds from Hdp.out] at hQ
    go_wp2_with (first
      | go_skip
      | ((with_reducible (show Go.wpList _ _ _ (Go.Oper.mk _ (.load _ _) _ _ _ _ :: _) _ _)); refine wpl_load1 hQ 0 rfl rfl rfl rfl (by simp [go_sem]) rfl ?_))
    go_ret
    obtain ⟨M, hM⟩ := Ent.group2 hQ.tail
    exact ⟨_, rfl, a3, c3, M, rfl, hM⟩
end Go.Proofs.YtcpgelpajppgdaaDoor
namespace Go.Proofs.YtcpgelpajppgdaaDoor
open Go.RowKit Go.SL

noncomputable def revP (es : List Ch) : List Ch := if mayB es = true then es.map swapC else []
noncomputable def revE (es : List Ch) : Int := if mayB es = true then 0 else 3
def RvRel (es : List Ch) (row : Option Addr → Nat → List Ch → HProp) (l : List HProp) (o i : Value) (wr : World) : Prop :=
  ∃ (k : Nat) (ao : Option Addr) (c : Nat) (out : List Ch), k ≤ es.length ∧ i = .int .i64 k ∧ out = (es.take k).map swapC ∧ o = .slice ao out.length c ∧ Ent (row ao c out :: l) wr
set_option maxRecDepth 100000 in
set_option maxHeartbeats 4000000 in
attribute [-go_sem] Instr.loadAt in
theorem Reverse_in {es : List Ch} (hn : es.length ≤ 100000) {ao : Option Addr} {c : Nat} {l : List HProp} {w : World} (hM : ∀ w, Ent l w → Calls Tryd.prog 42 #[.slice ao es.length c] w (Ret (MPost es l))) (hk : Knows l (reads (.slice ao es.length c) es.length (es.flatMap chC))) (hE : Ent l w) :
    Calls Tryd.prog 26 #[.slice ao es.length c] w (Ret fun v w' => ∃ ao' c', v = .tuple #[.slice ao' (revP es).length c', .int .i64 (revE es)] ∧ Ent (rowCh ao' c' (revP es) :: l) w') := by
  have HM := SL.hid hM
  clear hM
  unfold revP revE
  unfold MPost at HM
  cases hb : mayB es with
  | false =>
    rw [hb] at HM
    clear hb
    go_enter Tryd.func26, Tryd.ntmps26
    go_wp2_with (first
      | go_skip
      | (go_at_call 42; refine (HM.out _ hE).mono ?_; clear hE; rintro e w2 ⟨v, h1, h2, hE⟩; cases h1; cases h2))
    refine bodyPost_ret (results_tmp2 rfl _ _ _) rfl ?_
    exact ⟨_, rfl, none, 0, by simp, by simpa [rowCh] using hE.nil _ _⟩
  | true =>
    rw [hb] at HM
    clear hb
    go_enter Tryd.func26, Tryd.ntmps26
    go_wp2_with (first
      | go_skip
      | (go_at_call 42; refine (HM.out _ hE).mono ?_; clear hE; rintro e w2 ⟨v, h1, h2, hE⟩; cases h1; cases h2))
    go_loopw [4, 12] (fun o i wr => RvRel es rowCh l o i wr) (fun _ i _ => es.length - (intOf i).toNat)
    case atStart => exact ⟨0, none, 0, [], Nat.zero_le _, rfl, rfl, rfl, hE.nil _ _⟩
    case round =>
      clear hE
      obtain ⟨k, a1, c1, out, hkl, rfl, hout, rfl, hE⟩ := hrel
      have hol : out.length ≤ 100000 := by
        rw [hout, List.length_map, List.length_take]
        omega
      by_cases hlt : k < es.length
      · obtain ⟨b, off, rfl, hz⟩ := ch_at (hk _ hE.tail) hlt
        clear hz
        have hld := (load_dc (hk _ hE.tail) hlt).1
        have Hst := SL.hid (show (es.take (k + 1)).map swapC = out ++ [swapC es[k]] by rw [List.take_succ_eq_append_getElem hlt, List.map_append, ← hout]; rfl)
        clear hout
        generalize es[k] = x at *
        obtain ⟨xp, ⟨qt, qd, qb⟩, ⟨ut, ud, ub⟩⟩ := x
        simp only [chC] at hld
        go_wp2_with (first
          | go_skip
          | ((with_reducible (show Go.wpList _ _ _ (Go.Oper.mk _ (.alloc _) _ _ _ _ :: _) _ _)); clear hld; refine wpl_alloc hE rfl rfl (by simp [go_sem]; rfl) ?_; clear hE; intro b4 w hE; simp only [Act.eval, Act.put, List.setIfInBounds_toArray, List.set_cons_zero, List.set_cons_succ, getD_lit, List.getD_cons_succ, List.getD_cons_zero, Value.cells] at hE)
          | ((with_reducible (show Go.wpList _ _ _ (Go.Oper.mk _ (.store 65 _ _) _ _ _ _ :: _) _ _)); (first | (refine wpl_storeW hE 0 rfl rfl rfl (xs := [.string ⟨xp.toArray⟩, .bool qt, .bool qd, .string ⟨qb.toArray⟩, .bool ut, .bool ud, .string ⟨ub.toArray⟩]) rfl rfl Tryd.sizeOf65 rfl (by simp [Value.oneCell']) rfl ?_) | (refine wpl_storeW hE 1 rfl rfl rfl (xs := [.string ⟨xp.toArray⟩, .bool qt, .bool qd, .string ⟨qb.toArray⟩, .bool ut, .bool ud, .string ⟨ub.toArray⟩]) rfl rfl Tryd.sizeOf65 rfl (by simp [Value.oneCell']) rfl ?_) | (refine wpl_storeW hE 2 rfl rfl rfl (xs := [.string ⟨xp.toArray⟩, .bool qt, .bool qd, .string ⟨qb.toArray⟩, .bool ut, .bool ud, .string ⟨ub.toArray⟩]) rfl rfl Tryd.sizeOf65 rfl (by simp [Value.oneCell']) rfl ?_) | (refine wpl_storeW hE 3 rfl rfl rfl (xs := [.string ⟨xp.toArray⟩, .bool qt, .bool qd, .string ⟨qb.toArray⟩, .bool ut, .bool ud, .string ⟨ub.toArray⟩]) rfl rfl Tryd.sizeOf65 rfl (by simp [Value.oneCell']) rfl ?_) | (refine wpl_storeW hE 4 rfl rfl rfl (xs := [.string ⟨xp.toArray⟩, .bool qt, .bool qd, .string ⟨qb.toArray⟩, .bool ut, .bool ud, .string ⟨ub.toArray⟩]) rfl rfl Tryd.sizeOf65 rfl (by simp [Value.oneCell']) rfl ?_) | (refine wpl_storeW hE 5 rfl rfl rfl (xs := [.string ⟨xp.toArray⟩, .bool qt, .bool qd, .string ⟨qb.toArray⟩, .bool ut, .bool ud, .string ⟨ub.toArray⟩]) rfl rfl Tryd.sizeOf65 rfl (by simp [Value.oneCell']) rfl ?_) | (refine wpl_storeW hE 6 rfl rfl rfl (xs := [.string ⟨xp.toArray⟩, .bool qt, .bool qd, .string ⟨qb.toArray⟩, .bool ut, .bool ud, .string ⟨ub.toArray⟩]) rfl rfl Tryd.sizeOf65 rfl (by simp [Value.oneCell']) rfl ?_) | (refine wpl_storeW hE 7 rfl rfl rfl (xs := [.string ⟨xp.toArray⟩, .bool qt, .bool qd, .string ⟨qb.toArray⟩, .bool ut, .bool ud, .string ⟨ub.toArray⟩]) rfl rfl Tryd.sizeOf65 rfl (by simp [Value.oneCell']) rfl ?_)); clear hE; intro w hE; simp only [List.set_cons_zero, List.set_cons_succ] at hE)
          | ((with_reducible (show Go.wpList _ _ _ (Go.Oper.mk _ (.load 36 _) _ _ _ _ :: _) _ _)); first | refine wpl_loadA hE 0 rfl rfl rfl (off := 1) rfl Tryd.isAgg36 Tryd.sizeOf36 [.bool qt, .bool qd, .string ⟨qb.toArray⟩] rfl (fun j hj => by match j, hj with | 0, _ => rfl | 1, _ => rfl | 2, _ => rfl) ?_ | refine wpl_loadA hE 0 rfl rfl rfl (off := 4) rfl Tryd.isAgg36 Tryd.sizeOf36 [.bool ut, .bool ud, .string ⟨ub.toArray⟩] rfl (fun j hj => by match j, hj with | 0, _ => rfl | 1, _ => rfl | 2, _ => rfl) ?_)
          | ((with_reducible (show Go.wpList _ _ _ (Go.Oper.mk _ (.buildSlice _ _ _) _ _ _ _ :: _) _ _)); refine wpl_build1 hE rfl rfl (xs := chC ⟨xp, ⟨ut, ud, ub⟩, ⟨qt, qd, qb⟩⟩) rfl Tryd.underlying30 zs_ch Tryd.sizeOf65 (by decide) (by decide) rfl ?_; clear hE; intro b9 w3 hE)
          | ((with_reducible (show Go.wpList _ _ _ (Go.Oper.mk _ (.call { callee := .builtin .append, args := _, argTypes := _ }) _ _ _ _ :: _) _ _)); refine wpl_appendG hE 2 rfl rfl rfl rfl rfl Tryd.underlying30 info_ch (by decide) (m := 1) (news := chC ⟨xp, ⟨ut, ud, ub⟩, ⟨qt, qd, qb⟩⟩) (reads_pt hE 0 rfl (off := 0) (fun j u hu => by rw [Nat.zero_add, List.getElem?_toArray]; exact hu)) rfl (chC_one _) (by omega) (by omega) ?_; clear hE; intro a7 c7 w6 hE; simp only [List.set_cons_zero, List.set_cons_succ] at hE)
          | ((with_reducible (show Go.wpList _ _ _ (Go.Oper.mk _ (.load _ _) _ _ _ _ :: _) _ _)); (first | (refine wpl_load1 hE 0 rfl rfl rfl rfl (by simp [go_sem]) rfl ?_) | (refine wpl_load1 hE 1 rfl rfl rfl rfl (by simp [go_sem]) rfl ?_) | (refine wpl_load1 hE 2 rfl rfl rfl rfl (by simp [go_sem]) rfl ?_) | (refine wpl_load1 hE 3 rfl rfl rfl rfl (by simp [go_sem]) rfl ?_) | (refine wpl_load1 hE 4 rfl rfl rfl rfl (by simp [go_sem]) rfl ?_) | (refine wpl_load1 hE 5 rfl rfl rfl rfl (by simp [go_sem]) rfl ?_) | (refine wpl_load1 hE 6 rfl rfl rfl rfl (by simp [go_sem]) rfl ?_) | (refine wpl_load1 hE 7 rfl rfl rfl rfl (by simp [go_sem]) rfl ?_))))
        go_roundw
        case rel =>
          refine ⟨k + 1, a7, c7, out ++ [⟨xp, ⟨ut, ud, ub⟩, ⟨qt, qd, qb⟩⟩], hlt, by first | rfl | simp, by rw [Hst.out]; rfl, by simp, ?_⟩
          rw [← rowCh_add]
          exact hE.tail.tail
        case measure => simp [intOf] <;> omega
      · obtain rfl : k = es.length := by omega
        rw [List.take_length] at hout
        subst hout
        go_wp2
        refine bodyPost_ret (results_tmp2 rfl _ _ _) rfl ?_
        exact ⟨_, rfl, a1, c1, by simp, by simpa using hE⟩
end Go.Proofs.YtcpgelpajppgdaaDoor
namespace Go.Proofs.YtcpgelpajppgdaaDoor
open Go.RowKit Go.SL

def JC (p1 p2 : Nat) (L0 : List HProp) (done : List (Option Ch × Option Ch)) (L : List HProp) : Prop := ∃ ao c, L = boC p1 p2 ao c (done.filterMap stepO) (done.all fun p => fitsB p.1 p.2) L0
theorem stepO_x (x : Ch) : stepO (some x, none) = some x := rfl
theorem stepO_y (y : Ch) : stepO (none, some y) = some y := rfl
theorem boC_suf {p1 p2 : Nat} {ao : Option Addr} {c : Nat} {out : List Ch} {ok : Bool} {L0 : List HProp} : L0 <:+ boC p1 p2 ao c out ok L0 := (List.suffix_cons _ _).trans ((List.suffix_cons _ _).trans (List.suffix_cons _ _))
theorem JC_do {p1 p2 : Nat} {L0 : List HProp} {BB : List (Option Ch × Option Ch)} (hB : BB.length ≤ 1000000) (hs : ∀ p ∈ BB, p.1 ≠ none ∨ p.2 ≠ none) : ∀ done x y px py L w, (∃ r, done ++ (x, y) :: r = BB) → JC p1 p2 L0 done L → L0 <:+ L → Ent L w → ptrE L0 chC x px → ptrE L0 chC y py →
    Calls Tryd.prog 55 #[px, py, .pointer (some ⟨p1, 0, none⟩), .pointer (some ⟨p2, 0, none⟩)] w (Ret fun _ w' => ∃ L', JC p1 p2 L0 (done ++ [(x, y)]) L' ∧ L0 <:+ L' ∧ Ent L' w') := by
  rintro done x y px py L w ⟨r, hr⟩ ⟨ao, c, rfl⟩ _ hE hx hy
  have hn : (done.filterMap stepO).length ≤ 1000000 := by
    have h1 := List.length_filterMap_le stepO done
    have h2 := congrArg List.length hr
    rw [List.length_append] at h2
    omega
  have hxy := hs (x, y) (by rw [← hr]; simp)
  have fin : ∀ w', C1Post p1 p2 (done.filterMap stepO ++ (stepO (x, y)).toList) ((done.all fun p => fitsB p.1 p.2) && fitsB x y) L0 w' → ∃ L', JC p1 p2 L0 (done ++ [(x, y)]) L' ∧ L0 <:+ L' ∧ Ent L' w' := by
    rintro w' ⟨a7, c7, h⟩
    refine ⟨_, ⟨a7, c7, rfl⟩, boC_suf, ?_⟩
    rw [List.filterMap_append, List.all_append]
    have e1 : List.filterMap stepO [(x, y)] = (stepO (x, y)).toList := by cases h : stepO (x, y) <;> simp [h]
    have e2 : ([(x, y)].all fun p => fitsB p.1 p.2) = fitsB x y := by simp
    rw [e1, e2]
    exact h
  cases x with
  | none =>
    cases y with
    | none => simp at hxy
    | some b =>
      subst hx
      obtain ⟨b_y, oy, rfl, hy⟩ := hy
      refine (comp1_y hy hn hE).mono ?_
      rintro e w' ⟨v, rfl, h⟩
      exact ⟨v, rfl, fin _ (by rw [stepO_y]; simpa [fitsB] using h)⟩
  | some a =>
    obtain ⟨bx, ox, rfl, hx⟩ := hx
    cases y with
    | none =>
      subst hy
      refine (comp1_x hx hn hE).mono ?_
      rintro e w' ⟨v, rfl, h⟩
      exact ⟨v, rfl, fin _ (by rw [stepO_x]; simpa [fitsB] using h)⟩
    | some b =>
      obtain ⟨b_y, oy, rfl, hy⟩ := hy
      refine (comp1_xy hx hy hn hE).mono ?_
      rintro e w' ⟨v, rfl, h⟩
      exact ⟨v, rfl, fin _ h⟩
theorem may_rise {es : List Ch} (h : mayB es = true) : RiseP (es.map Ch.path) := by
  have h : mayR es := by simpa [mayB] using h
  exact h.2
theorem fm_all {P : List (Option Ch × Option Ch)} (h : (P.all fun p => fitsB p.1 p.2) = true) : P.filterMap stepO = P.filterMap fun p => compO p.1 p.2 := fm_congr fun p hp => by
  have := List.all_eq_true.1 h p hp
  rw [stepO, if_pos this]
set_option maxRecDepth 100000 in
set_option maxHeartbeats 4000000 in
theorem Compose_in {a b : List Ch} (hna : a.length ≤ 40000) (hnb : b.length ≤ 40000) (hpa : ∀ x ∈ a, x.path.length ≤ 100000) (hpb : ∀ x ∈ b, x.path.length ≤ 100000) {aa ab : Option Addr} {ca cb : Nat} (hca : a.length ≤ ca) (hcb : b.length ≤ cb) {l : List HProp} {w : World}
    (hM1 : ∀ w, Ent l w → Calls Tryd.prog 42 #[.slice aa a.length ca] w (Ret (MPost a l))) (hM2 : ∀ w, Ent l w → Calls Tryd.prog 42 #[.slice ab b.length cb] w (Ret (MPost b l)))
    (hka : Knows l (reads (.slice aa a.length ca) a.length (a.flatMap chC))) (hkb : Knows l (reads (.slice ab b.length cb) b.length (b.flatMap chC))) (hE : Ent l w) :
    Calls Tryd.prog 24 #[.slice aa a.length ca, .slice ab b.length cb] w (Ret (CmPost rowCh (cmpP a b) (cmpE a b) l)) := by
  have HM1 := SL.hid hM1
  have HM2 := SL.hid hM2
  clear hM1 hM2
  unfold cmpP cmpE
  unfold MPost at HM1 HM2
  have hr1 := may_rise (es := a)
  have hr2 := may_rise (es := b)
  generalize mayB a = ma at *
  generalize mayB b = mb at *
  cases ma with
  | false =>
    clear hr1 hr2
    go_enter Tryd.func24, Tryd.ntmps24
    go_wp2_with (first
      | go_skip
      | (go_at_call 42; refine (HM1.out _ hE).mono ?_; clear hE; rintro e w2 ⟨v, h1, h2, hE⟩; cases h1; cases h2))
    refine bodyPost_ret (results_tmp2 rfl _ _ _) rfl ?_
    exact ⟨_, rfl, none, 0, [], rfl, hE.nil _ _⟩
  | true =>
  cases mb with
  | false =>
    clear hr1 hr2
    have A1 := SL.hid True.intro
    go_enter Tryd.func24, Tryd.ntmps24
    go_wp2_with (first
      | go_skip
      | (clear A1; go_at_call 42; refine (HM1.out _ hE).mono ?_; clear hE; rintro e w2 ⟨v, h1, h2, hE⟩; cases h1; cases h2)
      | (go_at_call 42; refine (HM2.out _ hE).mono ?_; clear hE; rintro e w2 ⟨v, h1, h2, hE⟩; cases h1; cases h2))
    refine bodyPost_ret (results_tmp2 rfl _ _ _) rfl ?_
    exact ⟨_, rfl, none, 0, [], rfl, hE.nil _ _⟩
  | true =>
  simp only [Bool.and_self, if_true]
  have hBB : bothB Ch.path Ch.path (a.length + b.length) a b = pairsC a b := both_sorted (Nat.le_refl _) (hr1 rfl) (hr2 rfl)
  have hBl := both_len Ch.path Ch.path (a.length + b.length) a b
  have hBs := both_some Ch.path Ch.path (a.length + b.length) a b
  rw [hBB] at hBl hBs
  have HB := SL.hid (fun (L : List HProp) (p1 p2 : Nat) hs (w : World) (hE : Ent L w) (hJ : JC p1 p2 l [] L) => both54_any (p1 := p1) (p2 := p2) (L0 := l) (J := JC p1 p2 l) (JC_do (by omega) hBs) (Nat.le_refl _) hBB hca hcb hpa hpb hka hkb hJ hs hE)
  generalize pairsC a b = BB at *
  clear hBB hBl hBs hr1 hr2
  obtain ⟨XR, hXR⟩ : ∃ XR : List Ch, (if (BB.all fun p => fitsB p.1 p.2) = true then BB.filterMap (fun p => compO p.1 p.2) else []) = XR := ⟨_, rfl⟩
  obtain ⟨ER, hER⟩ : ∃ ER : Int, (if (BB.all fun p => fitsB p.1 p.2) = true then 0 else 10) = ER := ⟨_, rfl⟩
  have HXR := SL.hid hXR
  have HER := SL.hid hER
  rw [hXR, hER]
  clear hXR hER
  have Hfm := SL.hid (fm_all (P := BB))
  have A1 := SL.hid True.intro
  go_enter Tryd.func24, Tryd.ntmps24
  go_wp2_with (first
    | go_skip
    | (clear A1; go_at_call 42; refine (HM1.out _ hE).mono ?_; clear hE; rintro e w2 ⟨v, h1, h2, hE⟩; cases h1; cases h2)
    | (go_at_call 42; refine (HM2.out _ hE).mono ?_; clear hE; rintro e w2 ⟨v, h1, h2, hE⟩; cases h1; cases h2)
    | ((with_reducible (show Go.wpList _ _ _ (Go.Oper.mk _ (.alloc 30) _ _ _ _ :: _) _ _)); refine wpl_alloc hE rfl rfl (by simp [go_sem]; rfl) ?_; clear hE; intro b6 w hE; simp only [Act.eval, Act.put, List.setIfInBounds_toArray, List.set_cons_zero, List.set_cons_succ, getD_lit, List.getD_cons_succ, List.getD_cons_zero, Value.cells] at hE)
    | ((with_reducible (show Go.wpList _ _ _ (Go.Oper.mk _ (.alloc 4) _ _ _ _ :: _) _ _)); refine wpl_alloc hE rfl rfl (by simp [go_sem]; rfl) ?_; clear hE; intro b7 w hE; simp only [Act.eval, Act.put, List.setIfInBounds_toArray, List.set_cons_zero, List.set_cons_succ, getD_lit, List.getD_cons_succ, List.getD_cons_zero, Value.cells] at hE)
    | ((with_reducible (show Go.wpList _ _ _ (Go.Oper.mk _ (.store 4 _ _) _ _ _ _ :: _) _ _)); refine wpl_st1 hE 0 rfl rfl rfl rfl rfl (by first | (simp [go_sem]; done) | (simp [go_sem]; rfl)) rfl rfl (by simp) ?_; clear hE; intro w7 hE; simp only [List.set_cons_zero, List.set_cons_succ] at hE)
    | (go_at_call 54; have hQ := (((hE.nil 65 7).front 1 rfl).front 2 rfl); simp only [List.eraseIdx_cons_succ, List.eraseIdx_cons_zero] at hQ; have hQ2 : Ent (boC b6 b7 none 0 [] true l) _ := hQ; refine (HB.out _ b6 b7 boC_suf _ hQ2 ⟨none, 0, rfl⟩).mono ?_; clear hQ hQ2 hE; rintro e w5 ⟨v, h1, L9, ⟨a3, c3, h3⟩, h4, hE⟩; cases h1; subst h3; unfold boC at hE; obtain ⟨ok, hok⟩ : ∃ ok, (BB.all fun p => fitsB p.1 p.2) = ok := ⟨_, rfl⟩; rw [hok] at hE HXR HER Hfm; clear hok h4)
    | ((with_reducible (show Go.wpList _ _ _ (Go.Oper.mk _ (.load 4 _) _ _ _ _ :: _) _ _)); refine wpl_load1 hE 1 rfl rfl rfl rfl (by simp [go_sem]) rfl ?_)
    | ((with_reducible (show Go.wpList _ _ _ (Go.Oper.mk _ (.load 30 _) _ _ _ _ :: _) _ _)); refine wpl_load1 hE 0 rfl rfl rfl rfl (by simp [go_sem]) rfl ?_))
  · next h =>
    refine bodyPost_ret (results_tmp2 rfl _ _ _) rfl ?_
    refine ⟨_, rfl, ?_⟩
    obtain rfl : ok = false := by simpa using h
    rw [← HXR.out, ← HER.out]
    exact ⟨none, 0, [], rfl, hE.tail.tail.tail.nil _ _⟩
  · next h =>
    refine bodyPost_ret (results_tmp2 rfl _ _ _) rfl ?_
    refine ⟨_, rfl, ?_⟩
    obtain rfl : ok = true := by simpa using h
    rw [← HXR.out, ← HER.out, ← Hfm.out rfl]
    exact ⟨a3, c3, [], rfl, hE.tail.tail⟩
end Go.Proofs.YtcpgelpajppgdaaDoor
