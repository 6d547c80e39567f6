/-
  The law of the chunk of any bytes: the walk of its function.
-/
import Derived.Test.YtohdljcpaogokaaCki
namespace Go.Proofs.Ytohdljcpaogokaa
open Go.RowKit Go.SL

theorem resC_good (bs : List UInt8) : ∀ k ∈ (resC bs).kids, k.good := by
  unfold resC takeC
  split
  · exact pchunk_good bs
  · intro k hk; simp at hk
theorem resC_len (bs : List UInt8) : (resC bs).kids.length ≤ 6 := by
  unfold resC takeC
  split
  · rename_i h
    simp only [Bool.and_eq_true] at h
    exact mayC_kids h.1
  · simp

theorem six' {l : List HProp} {w : World} (hE : Ent l w) (i j : Nat) {b d : Nat} {v0 v1 v2 u0 u1 u2 : Value} {T T' : TypeId} {fz fz' : Nat × Nat} (hi : l[i]? = some (pt b (.cells #[v0, v1, v2] T fz))) (hj : l[j]? = some (pt d (.cells #[u0, u1, u2] T' fz'))) :
    (w.cell? ⟨b, 0, none⟩ = some v0 ∧ w.cell? ⟨b, 1, none⟩ = some v1 ∧ w.cell? ⟨b, 2, none⟩ = some v2) ∧ (w.cell? ⟨d, 0, none⟩ = some u0 ∧ w.cell? ⟨d, 1, none⟩ = some u1 ∧ w.cell? ⟨d, 2, none⟩ = some u2) :=
  ⟨⟨hE.cell i hi 0, hE.cell i hi 1, hE.cell i hi 2⟩, ⟨hE.cell j hj 0, hE.cell j hj 1, hE.cell j hj 2⟩⟩

set_option maxRecDepth 100000 in
set_option maxHeartbeats 4000000 in
theorem ChunkTakes_any (bs : List UInt8) {l : List HProp} {w : World} (hE : Ent l w) :
    Calls Try.prog 5 #[.string ⟨bs.toArray⟩] w (Ret fun v w' => v = .bool true ∧ Ent l w') := by
  cases h6 : decide ((600 : Int) < (bs.length : Int)) with
  | true =>
    go_enter Try.func5, Try.ntmps5
    go_wp2_with (first
      | go_skip
      | (go_at_call 17; have H := wakes12_any hE; refine H.mono ?_; clear H; rintro e w2 ⟨v, rfl, rfl, hE⟩))
    go_ret
    exact ⟨_, rfl, rfl, hE⟩
  | false =>
    have hb : bs.length ≤ 1000000 := by have := of_decide_eq_false h6; omega
    have hg := resC_good bs
    have hl := resC_len bs
    have hT : ∀ {ai : Option Addr} {ci : Nat} {l : List HProp} {w : World}, Ent l w → Knows l (reads (.slice ai bs.length ci) bs.length (bvals bs)) →
      Calls Try.prog 18 #[.slice ai bs.length ci] w (Ret fun v w' => ∃ ao c, v = .tuple #[.agg #[.int .u8 (resC bs).kind.toNat, .string ⟨(resC bs).data.toArray⟩, .slice ao (resC bs).kids.length c], .int .i64 (errC bs)] ∧ Ent (rowK ao c (resC bs).kids :: l) w') := fun h k => cTake_any hb h k
    have hR : ∀ {l : List HProp} {w : World}, Ent l w → Calls Try.prog 19 #[.string ⟨bs.toArray⟩] w (Ret fun v w' => ∃ ao c, v = .tuple #[.agg #[.int .u8 (resC bs).kind.toNat, .string ⟨(resC bs).data.toArray⟩, .slice ao (resC bs).kids.length c], .int .i64 (errC bs)] ∧ Ent (rowRK ao c (resC bs).kids :: l) w') := fun h => rTakeC_any hb h
    generalize errC bs = er at *
    generalize resC bs = rr at *
    obtain ⟨u, dat, ks⟩ := rr
    simp only at hg hl hT hR
    have Hg := SL.hid hg
    clear hg
    have S1 := SL.hid (show sameC ⟨u, dat, ks⟩ ⟨u, dat, ks⟩ = true from sameC_iff.2 rfl)
    go_enter Try.func5, Try.ntmps5
    go_wp2_with (first
      | go_skip
      | (refine wpl_strB hE rfl rfl rfl ?_; clear hE; intro b c w hE1)
      | (go_at_call 18; have H := hT hE1 (fun W hW => hW.views 0 rfl); refine H.mono ?_; clear H hE1; rintro e w2 ⟨v, rfl, a2, c2, rfl, hE2⟩)
      | ((with_reducible (show Go.wpList _ _ _ (Go.Oper.mk _ (.alloc _) _ _ _ _ :: _) _ _)); refine wpl_alloc hE2 rfl rfl (by simp [go_sem]; rfl) ?_; clear hE2; intro b3 w hE3; simp only [Act.eval, Act.put, List.setIfInBounds_toArray, List.set_cons_zero, List.set_cons_succ, getD_lit, List.getD_cons_succ, List.getD_cons_zero, Value.cells] at hE3)
      | ((with_reducible (show Go.wpList _ _ _ (Go.Oper.mk _ (.store _ (.tmp 3) _) _ _ _ _ :: _) _ _)); refine wpl_storeW hE3 0 rfl rfl rfl (xs := [.int .u8 u.toNat, .string ⟨dat.toArray⟩, .slice a2 ks.length c2]) rfl rfl Try.sizeOf39 rfl (by simp [Value.oneCell']) rfl ?_; clear hE3; intro w hE4; simp only [List.set_cons_zero, List.set_cons_succ] at hE4)
      | (go_at_call 19; have H := hR hE4; refine H.mono ?_; clear H hE4; rintro e w2 ⟨v, rfl, a4, c4, rfl, hE5⟩)
      | ((with_reducible (show Go.wpList _ _ _ (Go.Oper.mk _ (.alloc _) _ _ _ _ :: _) _ _)); refine wpl_alloc hE5 rfl rfl (by simp [go_sem]; rfl) ?_; clear hE5; intro b5 w hE6; simp only [Act.eval, Act.put, List.setIfInBounds_toArray, List.set_cons_zero, List.set_cons_succ, getD_lit, List.getD_cons_succ, List.getD_cons_zero, Value.cells] at hE6)
      | ((with_reducible (show Go.wpList _ _ _ (Go.Oper.mk _ (.store _ (.tmp 5) _) _ _ _ _ :: _) _ _)); refine wpl_storeW hE6 0 rfl rfl rfl (xs := [.int .u8 u.toNat, .string ⟨dat.toArray⟩, .slice a4 ks.length c4]) rfl rfl Try.sizeOf45 rfl (by simp [Value.oneCell']) rfl ?_; clear hE6; intro w hE7; simp only [List.set_cons_zero, List.set_cons_succ] at hE7))
    refine wp_region_held_drew (S := (fun w' => (w'.cell? ⟨b3, 0, none⟩ = some (.int .u8 u.toNat) ∧ w'.cell? ⟨b3, 1, none⟩ = some (.string ⟨dat.toArray⟩) ∧ w'.cell? ⟨b3, 2, none⟩ = some (.slice a2 ks.length c2)) ∧ (w'.cell? ⟨b5, 0, none⟩ = some (.int .u8 u.toNat) ∧ w'.cell? ⟨b5, 1, none⟩ = some (.string ⟨dat.toArray⟩) ∧ w'.cell? ⟨b5, 2, none⟩ = some (.slice a4 ks.length c4)))) (by kernel_rfl) (six' hE7.drew 2 0 rfl rfl) (fun hS => ?_)
    refine wpAnyH_take (i := 0) (oi := { dst := some 22, op := Go.Op.load 39 (Go.Operand.tmp 3), type := 39, pos := "law.go:80", after := #[], guard := none }) (v := ?_) rfl (by kernel_rfl) (by kernel_rfl) (by kernel_rfl) (fun _ _ _ h => h) (Or.inl ⟨by rfl, ?_⟩) hS ?_
    rotate_left
    · (intro w hSw; (try dsimp only at hSw); go_simp; (try with_reducible rfl))
    try simp only [Act.put, List.setIfInBounds_toArray, List.set_cons_zero, List.set_cons_succ]
    refine wpAnyH_take (i := 1) (oi := { dst := some 23, op := Go.Op.load 45 (Go.Operand.tmp 5), type := 45, pos := "law.go:80", after := #[], guard := none }) (v := ?_) rfl (by kernel_rfl) (by kernel_rfl) (by kernel_rfl) (fun _ _ _ h => h) (Or.inl ⟨by rfl, ?_⟩) hS ?_
    rotate_left
    · (intro w hSw; (try dsimp only at hSw); go_simp; (try with_reducible rfl))
    try simp only [Act.put, List.setIfInBounds_toArray, List.set_cons_zero, List.set_cons_succ]
    refine wpAnyH_ready (rs := [2]) (by kernel_rfl) (by simp) ?_
    refine (AllReadyH.cons (o := { dst := some 24, op := Go.Op.call { callee := Go.Callee.value (Go.Operand.func 21), args := #[Go.Operand.tmp 23], argTypes := #[45] }, type := 39, pos := "law.go:80", after := #[{ on := 1, ground := Go.Ground.data }], guard := none }) rfl (fun K hK => ?_) AllReadyH.nil)
    (go_simp; have H := Of_chunk (u := u) (data := dat) Hg.out (by omega) hE7.drew (fun W hW => reads_row hW 1 rfl); refine H.mono ?_; clear H; rintro e w8 ⟨v, rfl, a8, c8, rfl, hE8⟩)
    refine hK.out _ _ (six' hE8 3 1 rfl rfl) (fun hS => ?_)
    clear hK K
    try simp only [Act.put, List.setIfInBounds_toArray, List.set_cons_zero, List.set_cons_succ]
    refine wpAnyH_ready (rs := [3]) (by kernel_rfl) (by simp) ?_
    refine (AllReadyH.cons (o := { dst := some 25, op := Go.Op.call { callee := Go.Callee.value (Go.Operand.func 20), args := #[Go.Operand.tmp 22, Go.Operand.tmp 24], argTypes := #[39, 39] }, type := 4, pos := "law.go:80", after := #[{ on := 0, ground := Go.Ground.data }, { on := 2, ground := Go.Ground.data }, { on := 2, ground := Go.Ground.chain }], guard := none }) rfl (fun K hK => ?_) AllReadyH.nil)
    (go_simp; have H := Same_any (u1 := u) (u2 := u) (d1 := dat) (d2 := dat) Hg.out Hg.out (by omega) hE8 (fun W hW => reads_row hW 4 rfl) (fun W hW => reads_row hW 0 rfl); rw [S1.out] at H; refine H.mono ?_; clear H; rintro e w9 ⟨v, rfl, rfl, hE9⟩)
    refine hK.out _ _ (six' hE9 3 1 rfl rfl) (fun hS => ?_)
    clear hK K
    try simp only [Act.put, List.setIfInBounds_toArray, List.set_cons_zero, List.set_cons_succ]
    refine wpAnyH_take (i := 4) (oi := { dst := some 26, op := Go.Op.move (Go.Operand.tmp 25), type := 4, pos := "law.go:80", after := #[{ on := 3, ground := Go.Ground.data }, { on := 3, ground := Go.Ground.chain }], guard := none }) (v := ?_) rfl (by kernel_rfl) (by kernel_rfl) (by kernel_rfl) (fun _ _ _ h => h) (Or.inl ⟨by rfl, ?_⟩) hS ?_
    rotate_left
    · (intro w hSw; (try dsimp only at hSw); go_simp; (try with_reducible rfl))
    try simp only [Act.put, List.setIfInBounds_toArray, List.set_cons_zero, List.set_cons_succ]
    refine wpAnyH_take (i := 5) (oi := { dst := some 27, op := Go.Op.move (Go.Operand.tmp 4), type := 25, pos := "law.go:80", after := #[{ on := 4, ground := Go.Ground.guard }], guard := some (4, true) }) (v := ?_) rfl (by kernel_rfl) (by kernel_rfl) (by kernel_rfl) (fun _ _ _ h => h) (Or.inl ⟨by rfl, ?_⟩) hS ?_
    rotate_left
    · (intro w hSw; (try dsimp only at hSw); go_simp; (try with_reducible rfl))
    try simp only [Act.put, List.setIfInBounds_toArray, List.set_cons_zero, List.set_cons_succ]
    refine wpAnyH_take (i := 6) (oi := { dst := some 28, op := Go.Op.move (Go.Operand.tmp 6), type := 25, pos := "law.go:80", after := #[{ on := 4, ground := Go.Ground.guard }], guard := some (4, true) }) (v := ?_) rfl (by kernel_rfl) (by kernel_rfl) (by kernel_rfl) (fun _ _ _ h => h) (Or.inl ⟨by rfl, ?_⟩) hS ?_
    rotate_left
    · (intro w hSw; (try dsimp only at hSw); go_simp; (try with_reducible rfl))
    try simp only [Act.put, List.setIfInBounds_toArray, List.set_cons_zero, List.set_cons_succ]
    refine wpAnyH_take (i := 7) (oi := { dst := some 29, op := Go.Op.binOp Go.BinOp.eql 25 (Go.Operand.tmp 27) (Go.Operand.tmp 28) 25, type := 4, pos := "law.go:80", after := #[{ on := 5, ground := Go.Ground.data }, { on := 6, ground := Go.Ground.data }, { on := 4, ground := Go.Ground.guard }], guard := some (4, true) }) (v := ?_) rfl (by kernel_rfl) (by kernel_rfl) (by kernel_rfl) (fun _ _ _ h => h) (Or.inl ⟨by rfl, ?_⟩) hS ?_
    rotate_left
    · (intro w hSw; (try dsimp only at hSw); go_simp; (try with_reducible rfl))
    try simp only [Act.put, List.setIfInBounds_toArray, List.set_cons_zero, List.set_cons_succ]
    refine wpAnyH_take (i := 8) (oi := { dst := some 30, op := Go.Op.pick (Go.Operand.tmp 26) (Go.Operand.tmp 29) (Go.Operand.const (Go.Value.bool false)), type := 4, pos := "law.go:80", after := #[{ on := 4, ground := Go.Ground.data }, { on := 7, ground := Go.Ground.data }], guard := none }) (v := ?_) rfl (by kernel_rfl) (by kernel_rfl) (by kernel_rfl) (fun _ _ _ h => h) (Or.inl ⟨by rfl, ?_⟩) hS ?_
    rotate_left
    · (intro w hSw; (try dsimp only at hSw); go_simp; (try with_reducible rfl))
    try simp only [Act.put, List.setIfInBounds_toArray, List.set_cons_zero, List.set_cons_succ]
    refine wpAnyH_take (i := 9) (oi := { dst := some 31, op := Go.Op.move (Go.Operand.tmp 30), type := 4, pos := "law.go:80", after := #[{ on := 8, ground := Go.Ground.data }, { on := 4, ground := Go.Ground.chain }], guard := none }) (v := ?_) rfl (by kernel_rfl) (by kernel_rfl) (by kernel_rfl) (fun _ _ _ h => h) (Or.inl ⟨by rfl, ?_⟩) hS ?_
    rotate_left
    · (intro w hSw; (try dsimp only at hSw); go_simp; (try with_reducible rfl))
    try simp only [Act.put, List.setIfInBounds_toArray, List.set_cons_zero, List.set_cons_succ]
    refine wpAnyH_ready (rs := [10]) (by kernel_rfl) (by simp) ?_
    refine (AllReadyH.cons (o := { dst := some 32, op := Go.Op.call { callee := Go.Callee.value (Go.Operand.func 17), args := #[], argTypes := #[] }, type := 4, pos := "law.go:80", after := #[{ on := 9, ground := Go.Ground.chain }, { on := 9, ground := Go.Ground.guard }], guard := some (9, true) }) rfl (fun K hK => ?_) AllReadyH.nil)
    (go_simp; refine (wakes12_any hE9).mono ?_; rintro e wa ⟨v, rfl, rfl, hEa⟩)
    refine hK.out _ _ (six' hEa 3 1 rfl rfl) (fun hS => ?_)
    clear hK K
    try simp only [Act.put, List.setIfInBounds_toArray, List.set_cons_zero, List.set_cons_succ]
    refine wpAnyH_take (i := 11) (oi := { dst := some 33, op := Go.Op.pick (Go.Operand.tmp 31) (Go.Operand.tmp 32) (Go.Operand.const (Go.Value.bool false)), type := 4, pos := "law.go:80", after := #[{ on := 9, ground := Go.Ground.data }, { on := 10, ground := Go.Ground.data }], guard := none }) (v := ?_) rfl (by kernel_rfl) (by kernel_rfl) (by kernel_rfl) (fun _ _ _ h => h) (Or.inl ⟨by rfl, ?_⟩) hS ?_
    rotate_left
    · (intro w hSw; (try dsimp only at hSw); go_simp; (try with_reducible rfl))
    try simp only [Act.put, List.setIfInBounds_toArray, List.set_cons_zero, List.set_cons_succ]
    refine wpAnyH_take (i := 12) (oi := { dst := some 2, op := Go.Op.assign (Go.Operand.tmp 33), type := 4, pos := "law.go:80", after := #[{ on := 11, ground := Go.Ground.data }, { on := 10, ground := Go.Ground.chain }, { on := 0, ground := Go.Ground.phase }, { on := 1, ground := Go.Ground.phase }, { on := 2, ground := Go.Ground.phase }, { on := 3, ground := Go.Ground.phase }, { on := 4, ground := Go.Ground.phase }, { on := 5, ground := Go.Ground.phase }, { on := 6, ground := Go.Ground.phase }, { on := 7, ground := Go.Ground.phase }, { on := 8, ground := Go.Ground.phase }, { on := 9, ground := Go.Ground.phase }, { on := 10, ground := Go.Ground.phase }, { on := 11, ground := Go.Ground.phase }], guard := none }) (v := ?_) rfl (by kernel_rfl) (by kernel_rfl) (by kernel_rfl) (fun _ _ _ h => h) (Or.inl ⟨by rfl, ?_⟩) hS ?_
    rotate_left
    · (intro w hSw; (try dsimp only at hSw); go_simp; (try with_reducible rfl))
    try simp only [Act.put, List.setIfInBounds_toArray, List.set_cons_zero, List.set_cons_succ]
    refine wpAnyH_done (by kernel_rfl) ?_ _
    all_goals
      go_wp2
      go_ret
      exact ⟨_, rfl, rfl, hEa.tail.tail.tail.tail.tail.tail⟩
theorem ChunkTakes_str (s : ByteArray) {l : List HProp} {w : World} (hE : Ent l w) :
    Calls Try.prog 5 #[.string s] w (Ret fun v w' => v = .bool true ∧ Ent l w') := by
  have h := ChunkTakes_any s.data.toList hE
  have e : (⟨s.data.toList.toArray⟩ : ByteArray) = s := by simp
  rw [e] at h
  exact h
end Go.Proofs.Ytohdljcpaogokaa
