/-
  The hash of any bytes is the document's: the walks of the document's function and of the law.
-/
import Derived.Test.YtpchnmcofkffiaaDoorRf8
import Derived.Test.YtpchnmcofkffiaaDoorRt7
import Derived.Test.YtpchnmcofkffiaaDoorSm0
namespace Go.Proofs.YtpchnmcofkffiaaDoor
open Go.RowKit Go.SL

theorem Tables_is {l : List HProp} {w : World} (hE : Ent l w) :
    Calls Tryd.prog 17 #[] w (Ret fun v w' => v = tabV (tabH hFirst) ∧ Ent l w') := by
  have h := Tables_any hE
  rw [tab64] at h
  exact h
theorem With_is {l : List HProp} {w : World} {bs : List UInt8} (hb : bs.length ≤ 1000000) (hE : Ent l w) :
    Calls Tryd.prog 16 #[tabV (tabH hFirst), .string ⟨bs.toArray⟩] w (Ret fun v w' => v = .agg (bvals (shaV bs)).toArray ∧ Ent l w') := by
  have h := With_any hb hE
  rw [← shaV_is] at h
  exact h

set_option maxRecDepth 100000 in
theorem rSum_any {l : List HProp} {w : World} {bs : List UInt8} (hb : bs.length ≤ 1000000) (hE : Ent l w) :
    Calls Tryd.prog 13 #[.string ⟨bs.toArray⟩] w (Ret fun v w' => v = .agg (bvals (shaV bs)).toArray ∧ Ent l w') := by
  have Hsl : RowKit.Hid ((bvals (shaV bs)).length = 32) := SL.hid (by rw [bvals_length]; rfl)
  have Hone := SL.hid (bvals_one (shaV bs))
  go_enter Tryd.func13, Tryd.ntmps13
  go_wp2_with (first
    | go_skip
    | ((with_reducible (show Go.wpList _ _ _ (Go.Oper.mk _ (.alloc _) _ _ _ _ :: _) _ _)); refine wpl_allocN hE rfl rfl (n := 32) (by kernel_rfl) ?_; clear hE; intro b0 cs w1 hq hE1)
    | (go_at_call 17; refine (Tables_is hE1).mono ?_; clear hE1; rintro e w2 ⟨v, rfl, rfl, hE2⟩)
    | (go_at_call 16; refine (With_is hb hE2).mono ?_; clear hE2; rintro e w3 ⟨v, rfl, rfl, hE3⟩)
    | ((with_reducible (show Go.wpList _ _ _ (Go.Oper.mk _ (.store _ _ _) _ _ _ _ :: _) _ _)); refine wpl_storeN hE3 0 rfl rfl rfl (xs := bvals (shaV bs)) rfl rfl Tryd.sizeOf32 Hsl.out Hone.out hq ?_; clear hE3 hq; intro w9 hE; simp only [List.set_cons_zero, List.set_cons_succ] at hE))
  refine bodyPost_ret (results_cellA rfl hE 0 rfl rfl Tryd.isAgg32 Tryd.sizeOf32 Hsl.out) rfl ⟨_, rfl, rfl, hE.tail⟩

theorem sha_same (ys : List UInt8) (hy : ys.length = 32) (w : World) : (Op.equalIn 10000 32 (.agg (bvals ys).toArray) (.agg (bvals ys).toArray)).run Tryd.prog w = .ok true w := by
  obtain ⟨i, hi⟩ := Option.isSome_iff_exists.1 (show (Tryd.prog.info? 5).isSome = true by kernel_rfl)
  have h := run_equalA (P := Tryd.prog) (w := w) 9998 Tryd.underlying32 hi (by kernel_rfl) Tryd.underlying5 ys ys hy hy
  rw [beq_self_eq_true] at h
  exact h

set_option maxRecDepth 100000 in
set_option maxHeartbeats 1000000 in
theorem ShaSums_any {l : List HProp} {w : World} {bs : List UInt8} {ao : Option Addr} {c : Nat} (hc : bs.length ≤ c) (ht : Knows l KTab) (hf : Knows l FTab) (hk : Knows l (reads (.slice ao bs.length c) bs.length (bvals bs))) (hE : Ent l w) :
    Calls Tryd.prog 5 #[.slice ao bs.length c] w (Ret fun v w' => v = .bool true ∧ Ent l w') := by
  have Ht := SL.hid ht
  have Hf := SL.hid hf
  have Hk := SL.hid hk
  clear ht hf hk
  by_cases hg : 1000 < bs.length
  · have hg' : (1000 : Int) < (bs.length : Int) := by omega
    go_enter Tryd.func5, Tryd.ntmps5
    go_wp2_with (first
      | go_skip
      | (go_at_call 11; refine (wakes3_any Ht.out Hf.out hE).mono ?_; clear hE; rintro e w2 ⟨v, rfl, rfl, hE⟩))
    go_ret
    exact ⟨_, rfl, rfl, hE⟩
  · have hg' : ¬ (1000 : Int) < (bs.length : Int) := by omega
    have hb1 : bs.length ≤ 1099511627776 := by omega
    have hb2 : bs.length ≤ 1000000 := by omega
    have Hcv : RowKit.Hid (∀ (wx : World), Ent l wx → (convert 22 9 (.slice ao bs.length c)).run Tryd.prog wx = .ok (.string ⟨bs.toArray⟩) wx) := SL.hid (fun wx hx => bytesToString_reads (P := Tryd.prog) Tryd.underlying22 Tryd.underlying5 Tryd.underlying9 (Hk.out _ hx) rfl)
    have hEq := fun w => sha_same (shaV bs) rfl w
    go_enter Tryd.func5, Tryd.ntmps5
    go_wp2_with (first | go_skip)
    have hED := hE.drew
    refine wp_region_held_drew (S := (fun w' => (convert 22 9 (.slice ao bs.length c)).run Tryd.prog w' = .ok (.string ⟨bs.toArray⟩) w')) (by kernel_rfl) (Hcv.out _ hED) (fun hS => ?_)
    refine wpAnyH_take (i := 0) (oi := { dst := some 7, op := Go.Op.move (Go.Operand.tmp 0), type := 22, pos := "law.go:25", after := #[], guard := none }) (v := ?_) rfl (by kernel_rfl) (by kernel_rfl) (by kernel_rfl) (fun _ _ _ h => h) (Or.inl ⟨by rfl, ?_⟩) hS ?_
    rotate_left
    · (intro w hSw; (try dsimp only at hSw); go_simp; (try with_reducible rfl))
    try simp only [Act.put, List.setIfInBounds_toArray, List.set_cons_zero, List.set_cons_succ]
    refine wpAnyH_take (i := 2) (oi := { dst := some 9, op := Go.Op.move (Go.Operand.tmp 0), type := 22, pos := "law.go:25", after := #[], guard := none }) (v := ?_) rfl (by kernel_rfl) (by kernel_rfl) (by kernel_rfl) (fun _ _ _ h => h) (Or.inl ⟨by rfl, ?_⟩) hS ?_
    rotate_left
    · (intro w hSw; (try dsimp only at hSw); go_simp; (try with_reducible rfl))
    try simp only [Act.put, List.setIfInBounds_toArray, List.set_cons_zero, List.set_cons_succ]
    refine wpAnyH_take (i := 3) (oi := { dst := some 10, op := Go.Op.convert 22 9 (Go.Operand.tmp 9), type := 9, pos := "law.go:25", after := #[{ on := 2, ground := Go.Ground.data }], guard := none }) (v := ?_) rfl (by kernel_rfl) (by kernel_rfl) (by kernel_rfl) (fun _ _ _ h => h) (Or.inl ⟨by rfl, ?_⟩) hS ?_
    rotate_left
    · (intro w hSw; (try dsimp only at hSw); go_simp; (try with_reducible rfl))
    try simp only [Act.put, List.setIfInBounds_toArray, List.set_cons_zero, List.set_cons_succ]
    refine wpAnyH_ready (rs := [1]) (by kernel_rfl) (by simp) ?_
    refine (AllReadyH.cons (o := { dst := some 8, op := Go.Op.call { callee := Go.Callee.value (Go.Operand.func 12), args := #[Go.Operand.tmp 7], argTypes := #[22] }, type := 32, pos := "law.go:25", after := #[{ on := 0, ground := Go.Ground.data }], guard := none }) rfl (fun K hK => ?_) AllReadyH.nil)
    (go_simp; go_at_call 12; refine (Sum_any hb1 hc Ht.out Hf.out Hk.out hED).mono ?_; rintro e w2 ⟨v, rfl, rfl, hE2⟩)
    refine hK.out _ _ (Hcv.out _ hE2) (fun hS => ?_)
    clear hK K
    try simp only [Act.put, List.setIfInBounds_toArray, List.set_cons_zero, List.set_cons_succ]
    refine wpAnyH_ready (rs := [4]) (by kernel_rfl) (by simp) ?_
    refine (AllReadyH.cons (o := { dst := some 11, op := Go.Op.call { callee := Go.Callee.value (Go.Operand.func 13), args := #[Go.Operand.tmp 10], argTypes := #[9] }, type := 32, pos := "law.go:25", after := #[{ on := 3, ground := Go.Ground.data }, { on := 1, ground := Go.Ground.chain }], guard := none }) rfl (fun K hK => ?_) AllReadyH.nil)
    (go_simp; go_at_call 13; refine (rSum_any hb2 hE2).mono ?_; rintro e w3 ⟨v, rfl, rfl, hE3⟩)
    refine hK.out _ _ (Hcv.out _ hE3) (fun hS => ?_)
    clear hK K
    try simp only [Act.put, List.setIfInBounds_toArray, List.set_cons_zero, List.set_cons_succ]
    refine wpAnyH_take (i := 5) (oi := { dst := some 12, op := Go.Op.binOp Go.BinOp.eql 32 (Go.Operand.tmp 8) (Go.Operand.tmp 11) 32, type := 4, pos := "law.go:25", after := #[{ on := 1, ground := Go.Ground.data }, { on := 4, ground := Go.Ground.data }], guard := none }) (v := ?_) rfl (by kernel_rfl) (by kernel_rfl) (by kernel_rfl) (fun _ _ _ h => h) (Or.inl ⟨by rfl, ?_⟩) hS ?_
    rotate_left
    · (intro w hSw; (try dsimp only at hSw); go_simp; (try with_reducible rfl))
    try simp only [Act.put, List.setIfInBounds_toArray, List.set_cons_zero, List.set_cons_succ]
    refine wpAnyH_take (i := 6) (oi := { dst := some 13, op := Go.Op.move (Go.Operand.tmp 12), type := 4, pos := "law.go:25", after := #[{ on := 5, ground := Go.Ground.data }, { on := 4, ground := Go.Ground.chain }], guard := none }) (v := ?_) rfl (by kernel_rfl) (by kernel_rfl) (by kernel_rfl) (fun _ _ _ h => h) (Or.inl ⟨by rfl, ?_⟩) hS ?_
    rotate_left
    · (intro w hSw; (try dsimp only at hSw); go_simp; (try with_reducible rfl))
    try simp only [Act.put, List.setIfInBounds_toArray, List.set_cons_zero, List.set_cons_succ]
    refine wpAnyH_ready (rs := [7]) (by kernel_rfl) (by simp) ?_
    refine (AllReadyH.cons (o := { dst := some 14, op := Go.Op.call { callee := Go.Callee.value (Go.Operand.func 11), args := #[], argTypes := #[] }, type := 4, pos := "law.go:25", after := #[{ on := 6, ground := Go.Ground.chain }, { on := 6, ground := Go.Ground.guard }], guard := some (6, true) }) rfl (fun K hK => ?_) AllReadyH.nil)
    (go_simp; go_at_call 11; refine (wakes3_any Ht.out Hf.out hE3).mono ?_; rintro e w4 ⟨v, rfl, rfl, hE4⟩)
    refine hK.out _ _ (Hcv.out _ hE4) (fun hS => ?_)
    clear hK K
    try simp only [Act.put, List.setIfInBounds_toArray, List.set_cons_zero, List.set_cons_succ]
    refine wpAnyH_take (i := 8) (oi := { dst := some 15, op := Go.Op.pick (Go.Operand.tmp 13) (Go.Operand.tmp 14) (Go.Operand.const (Go.Value.bool false)), type := 4, pos := "law.go:25", after := #[{ on := 6, ground := Go.Ground.data }, { on := 7, ground := Go.Ground.data }], guard := none }) (v := ?_) rfl (by kernel_rfl) (by kernel_rfl) (by kernel_rfl) (fun _ _ _ h => h) (Or.inl ⟨by rfl, ?_⟩) hS ?_
    rotate_left
    · (intro w hSw; (try dsimp only at hSw); go_simp; (try with_reducible rfl))
    try simp only [Act.put, List.setIfInBounds_toArray, List.set_cons_zero, List.set_cons_succ]
    refine wpAnyH_take (i := 9) (oi := { dst := some 2, op := Go.Op.assign (Go.Operand.tmp 15), type := 4, pos := "law.go:25", after := #[{ on := 8, ground := Go.Ground.data }, { on := 7, ground := Go.Ground.chain }, { on := 0, ground := Go.Ground.phase }, { on := 1, ground := Go.Ground.phase }, { on := 2, ground := Go.Ground.phase }, { on := 3, ground := Go.Ground.phase }, { on := 4, ground := Go.Ground.phase }, { on := 5, ground := Go.Ground.phase }, { on := 6, ground := Go.Ground.phase }, { on := 7, ground := Go.Ground.phase }, { on := 8, ground := Go.Ground.phase }], guard := none }) (v := ?_) rfl (by kernel_rfl) (by kernel_rfl) (by kernel_rfl) (fun _ _ _ h => h) (Or.inl ⟨by rfl, ?_⟩) hS ?_
    rotate_left
    · (intro w hSw; (try dsimp only at hSw); go_simp; (try with_reducible rfl))
    try simp only [Act.put, List.setIfInBounds_toArray, List.set_cons_zero, List.set_cons_succ]
    refine wpAnyH_done (by kernel_rfl) ?_ _
    clear hEq hS
    go_wp2_with (first | go_skip)
    go_ret
    exact ⟨_, rfl, by simp, hE4⟩
end Go.Proofs.YtpchnmcofkffiaaDoor
