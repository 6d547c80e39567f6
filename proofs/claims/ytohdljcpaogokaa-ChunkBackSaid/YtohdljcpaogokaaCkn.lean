/-
  The stage's theorem of the chunks, where the first chunk may be and the second may not be.
-/
import Derived.Test.YtohdljcpaogokaaCkk
namespace Go.Proofs.Ytohdljcpaogokaa
open Go.RowKit Go.SL

set_option maxRecDepth 100000 in
set_option maxHeartbeats 4000000 in
theorem back_100 {ua ub : UInt8} {da db bs : List UInt8} {ka kb : List Kid} {aa ab ai : Option Addr} {ca cb ci : Nat} (ga : ∀ k ∈ ka, k.good) (gb : ∀ k ∈ kb, k.good) {l : List HProp} {w : World} (hE : Ent l w)
    (ra : Knows l (reads (.slice aa ka.length ca) ka.length (kidCells ka))) (rb : Knows l (reads (.slice ab kb.length cb) kb.length (kidCells kb))) (rs : Knows l (reads (.slice ai bs.length ci) bs.length (bvals bs))) (GA : RowKit.Hid (greatC ⟨ua, da, ka⟩ = false)) (GB : RowKit.Hid (greatC ⟨ub, db, kb⟩ = false)) (h6 : decide ((600 : Int) < (bs.length : Int)) = false) (MA : RowKit.Hid (mayC ⟨ua, da, ka⟩ = true)) (MB : RowKit.Hid (mayC ⟨ub, db, kb⟩ = false)) (TS : RowKit.Hid (takeC bs = none)) :
    Calls Try.prog 6 #[.agg #[.int .u8 ua.toNat, .string ⟨da.toArray⟩, .slice aa ka.length ca], .agg #[.int .u8 ub.toNat, .string ⟨db.toArray⟩, .slice ab kb.length cb], .slice ai bs.length ci] w (Ret fun v w' => v = .bool true ∧ Ent l w') := by
  have Ga := SL.hid ga
  have Gb := SL.hid gb
  clear ga gb
  have hbs : bs.length ≤ 1000000 := by have := of_decide_eq_false h6; omega
  have nA := (greatC_false GA.out).1
  have nB := (greatC_false GB.out).1
  simp only at nA nB
  have PA := SL.hid (takeC_put' (c := ⟨ua, da, ka⟩) Ga.out MA.out)
  have hpl := putC_len (c := ⟨ua, da, ka⟩) Ga.out MA.out
  have Hab := SL.hid (hgt_above (c := ⟨ua, da, ka⟩) MA.out)
  have SA := SL.hid (show sameC ⟨ua, da, ka⟩ ⟨ua, da, ka⟩ = true from sameC_iff.2 rfl)
  have K1 := SL.hid (show resC bs = ⟨0, [], []⟩ by unfold resC; rw [TS.out]; rfl)
  have K2 := SL.hid (show errC bs = 3 by unfold errC; rw [TS.out]; rfl)
  go_enter Try.func6, Try.ntmps6
  go_wp2_with (first
    | go_skip
    | ((with_reducible (show Go.wpList _ _ _ (Go.Oper.mk _ (.box _ (.tmp 0)) _ _ _ _ :: _) _ _)); refine wpl_box hE rfl rfl rfl ?_; clear hE; intro b3 w hE1; simp only [Act.eval, Act.put, List.setIfInBounds_toArray, List.set_cons_zero, List.set_cons_succ, getD_lit, List.getD_cons_succ, List.getD_cons_zero, Value.cells] at hE1)
    | ((with_reducible (show Go.wpList _ _ _ (Go.Oper.mk _ (.box _ (.tmp 1)) _ _ _ _ :: _) _ _)); refine wpl_box hE1 rfl rfl rfl ?_; clear hE1; intro b4 w hE2; simp only [Act.eval, Act.put, List.setIfInBounds_toArray, List.set_cons_zero, List.set_cons_succ, getD_lit, List.getD_cons_succ, List.getD_cons_zero, Value.cells] at hE2)
    | ((with_reducible (show Go.wpList _ _ _ (Go.Oper.mk _ (.load _ (.tmp 3)) _ _ _ _ :: _) _ _)); refine wpl_loadW hE2 1 rfl rfl rfl rfl Try.isAgg45 Try.sizeOf45 (xs := [.int .u8 ua.toNat, .string ⟨da.toArray⟩, .slice aa ka.length ca]) rfl ?_)
    | (go_at_call 22; have H := great_any (u := ua) (data := da) Ga.out hE2 ra.cons.cons; rw [GA.out] at H; refine H.mono ?_; clear H hE2; rintro e w2 ⟨v, rfl, rfl, hE3⟩)
    | ((with_reducible (show Go.wpList _ _ _ (Go.Oper.mk _ (.load _ (.tmp 4)) _ _ _ _ :: _) _ _)); refine wpl_loadW hE3 0 rfl rfl rfl rfl Try.isAgg45 Try.sizeOf45 (xs := [.int .u8 ub.toNat, .string ⟨db.toArray⟩, .slice ab kb.length cb]) rfl ?_)
    | (go_at_call 22; have H := great_any (u := ub) (data := db) Gb.out hE3 rb.cons.cons; rw [GB.out] at H; refine H.mono ?_; clear H hE3; rintro e w2 ⟨v, rfl, rfl, hE4⟩)
    | ((with_reducible (show Go.wpList _ _ _ (Go.Oper.mk _ (.load _ (.tmp 3)) _ _ _ _ :: _) _ _)); refine wpl_loadW hE4 1 rfl rfl rfl rfl Try.isAgg45 Try.sizeOf45 (xs := [.int .u8 ua.toNat, .string ⟨da.toArray⟩, .slice aa ka.length ca]) rfl ?_)
    | (go_at_call 21; have H := Of_chunk (u := ua) (data := da) Ga.out (by omega) hE4 ra.cons.cons; refine H.mono ?_; clear H hE4; rintro e w2 ⟨v, rfl, oa, pa, rfl, hE5⟩)
    | (go_at_call 23; have H := cPut_yes (u := ua) (data := da) Ga.out MA.out hE5 (fun W hW => reads_row hW 0 rfl); refine H.mono ?_; clear H hE5; rintro e w2 ⟨v, rfl, ax, cx, rfl, hE6⟩)
    | ((with_reducible (show Go.wpList _ _ _ (Go.Oper.mk _ (.load _ (.tmp 4)) _ _ _ _ :: _) _ _)); refine wpl_loadW hE6 2 rfl rfl rfl rfl Try.isAgg45 Try.sizeOf45 (xs := [.int .u8 ub.toNat, .string ⟨db.toArray⟩, .slice ab kb.length cb]) rfl ?_)
    | (go_at_call 21; have H := Of_chunk (u := ub) (data := db) Gb.out (by omega) hE6 rb.cons.cons.cons.cons; refine H.mono ?_; clear H hE6; rintro e w2 ⟨v, rfl, ob, pb, rfl, hE7⟩)
    | (go_at_call 23; have H := cPut_no (u := ub) (data := db) Gb.out (by omega) MB.out hE7 (fun W hW => reads_row hW 0 rfl); refine H.mono ?_; clear H hE7; rintro e w2 ⟨v, rfl, rfl, hE8⟩))
  refine wp_region_held_drew (S := (fun _ => True)) (by kernel_rfl) trivial (fun hS => ?_)
  refine wpAnyH_take (i := 0) (oi := { dst := some 42, op := Go.Op.move (Go.Operand.tmp 8), type := 25, pos := "law.go:90", after := #[], guard := none }) (v := ?_) rfl (by kernel_rfl) (by kernel_rfl) (by kernel_rfl) (fun _ _ _ h => h) (Or.inl ⟨by rfl, ?_⟩) hS ?_
  rotate_left
  · (intro w hSw; (try dsimp only at hSw); go_simp; (try with_reducible rfl))
  try simp only [Act.put, List.setIfInBounds_toArray, List.set_cons_zero, List.set_cons_succ]
  refine wpAnyH_take (i := 1) (oi := { dst := some 43, op := Go.Op.binOp Go.BinOp.eql 25 (Go.Operand.tmp 42) (Go.Operand.const (Go.Value.int Go.IntKind.i64 0)) 25, type := 4, pos := "law.go:90", after := #[{ on := 0, ground := Go.Ground.data }], guard := none }) (v := ?_) rfl (by kernel_rfl) (by kernel_rfl) (by kernel_rfl) (fun _ _ _ h => h) (Or.inl ⟨by rfl, ?_⟩) hS ?_
  rotate_left
  · (intro w hSw; (try dsimp only at hSw); go_simp; (try with_reducible rfl))
  try simp only [Act.put, List.setIfInBounds_toArray, List.set_cons_zero, List.set_cons_succ]
  refine wpAnyH_take (i := 2) (oi := { dst := some 44, op := Go.Op.move (Go.Operand.tmp 43), type := 4, pos := "law.go:90", after := #[{ on := 1, ground := Go.Ground.data }], guard := none }) (v := ?_) rfl (by kernel_rfl) (by kernel_rfl) (by kernel_rfl) (fun _ _ _ h => h) (Or.inl ⟨by rfl, ?_⟩) hS ?_
  rotate_left
  · (intro w hSw; (try dsimp only at hSw); go_simp; (try with_reducible rfl))
  try simp only [Act.put, List.setIfInBounds_toArray, List.set_cons_zero, List.set_cons_succ]
  refine wpAnyH_take (i := 3) (oi := { dst := some 45, op := Go.Op.move (Go.Operand.tmp 10), type := 25, pos := "law.go:90", after := #[{ on := 2, ground := Go.Ground.guard }], guard := some (2, true) }) (v := ?_) rfl (by kernel_rfl) (by kernel_rfl) (by kernel_rfl) (fun _ _ _ h => h) (Or.inl ⟨by rfl, ?_⟩) hS ?_
  rotate_left
  · (intro w hSw; (try dsimp only at hSw); go_simp; (try with_reducible rfl))
  try simp only [Act.put, List.setIfInBounds_toArray, List.set_cons_zero, List.set_cons_succ]
  refine wpAnyH_take (i := 4) (oi := { dst := some 46, op := Go.Op.binOp Go.BinOp.eql 25 (Go.Operand.tmp 45) (Go.Operand.const (Go.Value.int Go.IntKind.i64 0)) 25, type := 4, pos := "law.go:90", after := #[{ on := 3, ground := Go.Ground.data }, { on := 2, ground := Go.Ground.guard }], guard := some (2, true) }) (v := ?_) rfl (by kernel_rfl) (by kernel_rfl) (by kernel_rfl) (fun _ _ _ h => h) (Or.inl ⟨by rfl, ?_⟩) hS ?_
  rotate_left
  · (intro w hSw; (try dsimp only at hSw); go_simp; (try with_reducible rfl))
  try simp only [Act.put, List.setIfInBounds_toArray, List.set_cons_zero, List.set_cons_succ]
  refine wpAnyH_take (i := 5) (oi := { dst := some 47, op := Go.Op.pick (Go.Operand.tmp 44) (Go.Operand.tmp 46) (Go.Operand.const (Go.Value.bool false)), type := 4, pos := "law.go:90", after := #[{ on := 2, ground := Go.Ground.data }, { on := 4, ground := Go.Ground.data }], guard := none }) (v := ?_) rfl (by kernel_rfl) (by kernel_rfl) (by kernel_rfl) (fun _ _ _ h => h) (Or.inl ⟨by rfl, ?_⟩) hS ?_
  rotate_left
  · (intro w hSw; (try dsimp only at hSw); go_simp; (try with_reducible rfl))
  try simp only [Act.put, List.setIfInBounds_toArray, List.set_cons_zero, List.set_cons_succ]
  refine wpAnyH_take (i := 6) (oi := { dst := some 48, op := Go.Op.move (Go.Operand.tmp 47), type := 4, pos := "law.go:90", after := #[{ on := 5, ground := Go.Ground.data }, { on := 2, ground := Go.Ground.chain }], guard := none }) (v := ?_) rfl (by kernel_rfl) (by kernel_rfl) (by kernel_rfl) (fun _ _ _ h => h) (Or.inl ⟨by rfl, ?_⟩) hS ?_
  rotate_left
  · (intro w hSw; (try dsimp only at hSw); go_simp; (try with_reducible rfl))
  try simp only [Act.put, List.setIfInBounds_toArray, List.set_cons_zero, List.set_cons_succ]
  refine wpAnyH_take (i := 7) (oi := { dst := some 49, op := Go.Op.move (Go.Operand.tmp 7), type := 42, pos := "law.go:90", after := #[{ on := 6, ground := Go.Ground.guard }], guard := some (6, true) }) (v := undef) rfl (by kernel_rfl) (by kernel_rfl) (by kernel_rfl) (fun _ _ _ h => h) (Or.inr ⟨by rfl, rfl⟩) hS ?_
  try simp only [Act.put, List.setIfInBounds_toArray, List.set_cons_zero, List.set_cons_succ]
  refine wpAnyH_take (i := 8) (oi := { dst := some 50, op := Go.Op.convert 42 9 (Go.Operand.tmp 49), type := 9, pos := "law.go:90", after := #[{ on := 7, ground := Go.Ground.data }, { on := 6, ground := Go.Ground.guard }], guard := some (6, true) }) (v := undef) rfl (by kernel_rfl) (by kernel_rfl) (by kernel_rfl) (fun _ _ _ h => h) (Or.inr ⟨by rfl, rfl⟩) hS ?_
  try simp only [Act.put, List.setIfInBounds_toArray, List.set_cons_zero, List.set_cons_succ]
  refine wpAnyH_take (i := 9) (oi := { dst := some 51, op := Go.Op.move (Go.Operand.tmp 9), type := 42, pos := "law.go:90", after := #[{ on := 6, ground := Go.Ground.guard }], guard := some (6, true) }) (v := undef) rfl (by kernel_rfl) (by kernel_rfl) (by kernel_rfl) (fun _ _ _ h => h) (Or.inr ⟨by rfl, rfl⟩) hS ?_
  try simp only [Act.put, List.setIfInBounds_toArray, List.set_cons_zero, List.set_cons_succ]
  refine wpAnyH_take (i := 10) (oi := { dst := some 52, op := Go.Op.convert 42 9 (Go.Operand.tmp 51), type := 9, pos := "law.go:90", after := #[{ on := 9, ground := Go.Ground.data }, { on := 6, ground := Go.Ground.guard }], guard := some (6, true) }) (v := undef) rfl (by kernel_rfl) (by kernel_rfl) (by kernel_rfl) (fun _ _ _ h => h) (Or.inr ⟨by rfl, rfl⟩) hS ?_
  try simp only [Act.put, List.setIfInBounds_toArray, List.set_cons_zero, List.set_cons_succ]
  refine wpAnyH_take (i := 11) (oi := { dst := some 53, op := Go.Op.binOp Go.BinOp.eql 9 (Go.Operand.tmp 50) (Go.Operand.tmp 52) 9, type := 4, pos := "law.go:90", after := #[{ on := 8, ground := Go.Ground.data }, { on := 10, ground := Go.Ground.data }, { on := 6, ground := Go.Ground.guard }], guard := some (6, true) }) (v := undef) rfl (by kernel_rfl) (by kernel_rfl) (by kernel_rfl) (fun _ _ _ h => h) (Or.inr ⟨by rfl, rfl⟩) hS ?_
  try simp only [Act.put, List.setIfInBounds_toArray, List.set_cons_zero, List.set_cons_succ]
  refine wpAnyH_take (i := 12) (oi := { dst := some 54, op := Go.Op.load 45 (Go.Operand.tmp 3), type := 45, pos := "law.go:90", after := #[{ on := 6, ground := Go.Ground.guard }], guard := some (6, true) }) (v := undef) rfl (by kernel_rfl) (by kernel_rfl) (by kernel_rfl) (fun _ _ _ h => h) (Or.inr ⟨by rfl, rfl⟩) hS ?_
  try simp only [Act.put, List.setIfInBounds_toArray, List.set_cons_zero, List.set_cons_succ]
  refine wpAnyH_take (i := 13) (oi := { dst := some 55, op := Go.Op.call { callee := Go.Callee.value (Go.Operand.func 21), args := #[Go.Operand.tmp 54], argTypes := #[45] }, type := 39, pos := "law.go:90", after := #[{ on := 12, ground := Go.Ground.data }, { on := 6, ground := Go.Ground.chain }, { on := 6, ground := Go.Ground.guard }], guard := some (6, true) }) (v := undef) rfl (by kernel_rfl) (by kernel_rfl) (by kernel_rfl) (fun _ _ _ h => h) (Or.inr ⟨by rfl, rfl⟩) hS ?_
  try simp only [Act.put, List.setIfInBounds_toArray, List.set_cons_zero, List.set_cons_succ]
  refine wpAnyH_take (i := 14) (oi := { dst := some 56, op := Go.Op.load 45 (Go.Operand.tmp 4), type := 45, pos := "law.go:90", after := #[{ on := 6, ground := Go.Ground.guard }], guard := some (6, true) }) (v := undef) rfl (by kernel_rfl) (by kernel_rfl) (by kernel_rfl) (fun _ _ _ h => h) (Or.inr ⟨by rfl, rfl⟩) hS ?_
  try simp only [Act.put, List.setIfInBounds_toArray, List.set_cons_zero, List.set_cons_succ]
  refine wpAnyH_take (i := 15) (oi := { dst := some 57, op := Go.Op.call { callee := Go.Callee.value (Go.Operand.func 21), args := #[Go.Operand.tmp 56], argTypes := #[45] }, type := 39, pos := "law.go:90", after := #[{ on := 14, ground := Go.Ground.data }, { on := 13, ground := Go.Ground.chain }, { on := 6, ground := Go.Ground.guard }], guard := some (6, true) }) (v := undef) rfl (by kernel_rfl) (by kernel_rfl) (by kernel_rfl) (fun _ _ _ h => h) (Or.inr ⟨by rfl, rfl⟩) hS ?_
  try simp only [Act.put, List.setIfInBounds_toArray, List.set_cons_zero, List.set_cons_succ]
  refine wpAnyH_take (i := 16) (oi := { dst := some 58, op := Go.Op.call { callee := Go.Callee.value (Go.Operand.func 20), args := #[Go.Operand.tmp 55, Go.Operand.tmp 57], argTypes := #[39, 39] }, type := 4, pos := "law.go:90", after := #[{ on := 13, ground := Go.Ground.data }, { on := 15, ground := Go.Ground.data }, { on := 15, ground := Go.Ground.chain }, { on := 6, ground := Go.Ground.guard }], guard := some (6, true) }) (v := undef) rfl (by kernel_rfl) (by kernel_rfl) (by kernel_rfl) (fun _ _ _ h => h) (Or.inr ⟨by rfl, rfl⟩) hS ?_
  try simp only [Act.put, List.setIfInBounds_toArray, List.set_cons_zero, List.set_cons_succ]
  refine wpAnyH_take (i := 17) (oi := { dst := some 59, op := Go.Op.binOp Go.BinOp.neq 4 (Go.Operand.tmp 53) (Go.Operand.tmp 58) 4, type := 4, pos := "law.go:90", after := #[{ on := 11, ground := Go.Ground.data }, { on := 16, ground := Go.Ground.data }, { on := 6, ground := Go.Ground.guard }], guard := some (6, true) }) (v := undef) rfl (by kernel_rfl) (by kernel_rfl) (by kernel_rfl) (fun _ _ _ h => h) (Or.inr ⟨by rfl, rfl⟩) hS ?_
  try simp only [Act.put, List.setIfInBounds_toArray, List.set_cons_zero, List.set_cons_succ]
  refine wpAnyH_take (i := 18) (oi := { dst := some 60, op := Go.Op.pick (Go.Operand.tmp 48) (Go.Operand.tmp 59) (Go.Operand.const (Go.Value.bool false)), type := 4, pos := "law.go:90", after := #[{ on := 6, ground := Go.Ground.data }, { on := 17, ground := Go.Ground.data }], guard := none }) (v := ?_) rfl (by kernel_rfl) (by kernel_rfl) (by kernel_rfl) (fun _ _ _ h => h) (Or.inl ⟨by rfl, ?_⟩) hS ?_
  rotate_left
  · (intro w hSw; (try dsimp only at hSw); go_simp; (try with_reducible rfl))
  try simp only [Act.put, List.setIfInBounds_toArray, List.set_cons_zero, List.set_cons_succ]
  refine wpAnyH_done (by kernel_rfl) ?_ _
  all_goals
    replace hE8 := hE8.drew
    go_wp2_with (first
      | go_skip
      | (go_at_call 18; have H := cTake_any (bs := putC ⟨ua, da, ka⟩) (by omega) hE8 (fun W hW => reads_row hW 1 rfl); rw [PA.out.1, PA.out.2] at H; refine H.mono ?_; clear H hE8; rintro e w2 ⟨v, rfl, at1, ct1, rfl, hF1⟩)
      | ((with_reducible (show Go.wpList _ _ _ (Go.Oper.mk _ (.alloc _) _ _ _ _ :: _) _ _)); refine wpl_alloc hF1 rfl rfl (by simp [go_sem]; rfl) ?_; clear hF1; intro b11 w hF2; simp only [Act.eval, Act.put, List.setIfInBounds_toArray, List.set_cons_zero, List.set_cons_succ, getD_lit, List.getD_cons_succ, List.getD_cons_zero, Value.cells] at hF2)
      | ((with_reducible (show Go.wpList _ _ _ (Go.Oper.mk _ (.store _ (.tmp 11) _) _ _ _ _ :: _) _ _)); refine wpl_storeW hF2 0 rfl rfl rfl (xs := [.int .u8 ua.toNat, .string ⟨da.toArray⟩, .slice at1 ka.length ct1]) rfl rfl Try.sizeOf39 rfl (by simp [Value.oneCell']) rfl ?_; clear hF2; intro w hF3; simp only [List.set_cons_zero, List.set_cons_succ] at hF3))
    have hp340 : decide ((340 : Int) < ((putC ⟨ua, da, ka⟩).length : Int)) = false := decide_eq_false (by omega)
    refine wp_region_held_drew (S := (fun w' => (w'.cell? ⟨b11, 0, none⟩ = some (.int .u8 ua.toNat) ∧ w'.cell? ⟨b11, 1, none⟩ = some (.string ⟨da.toArray⟩) ∧ w'.cell? ⟨b11, 2, none⟩ = some (.slice at1 ka.length ct1)) ∧ (w'.cell? ⟨b3, 0, none⟩ = some (.int .u8 ua.toNat) ∧ w'.cell? ⟨b3, 1, none⟩ = some (.string ⟨da.toArray⟩) ∧ w'.cell? ⟨b3, 2, none⟩ = some (.slice aa ka.length ca)))) (by kernel_rfl) (six' hF3.drew 0 6 rfl rfl) (fun hS => ?_)
    refine wpAnyH_take (i := 0) (oi := { dst := some 68, op := Go.Op.move (Go.Operand.tmp 12), type := 25, pos := "law.go:95", after := #[], guard := none }) (v := ?_) rfl (by kernel_rfl) (by kernel_rfl) (by kernel_rfl) (fun _ _ _ h => h) (Or.inl ⟨by rfl, ?_⟩) hS ?_
    rotate_left
    · (intro w hSw; (try dsimp only at hSw); go_simp; (try with_reducible rfl))
    try simp only [Act.put, List.setIfInBounds_toArray, List.set_cons_zero, List.set_cons_succ]
    refine wpAnyH_take (i := 1) (oi := { dst := some 69, op := Go.Op.binOp Go.BinOp.neq 25 (Go.Operand.tmp 68) (Go.Operand.const (Go.Value.int Go.IntKind.i64 0)) 25, type := 4, pos := "law.go:95", after := #[{ on := 0, ground := Go.Ground.data }], guard := none }) (v := ?_) rfl (by kernel_rfl) (by kernel_rfl) (by kernel_rfl) (fun _ _ _ h => h) (Or.inl ⟨by rfl, ?_⟩) hS ?_
    rotate_left
    · (intro w hSw; (try dsimp only at hSw); go_simp; (try with_reducible rfl))
    try simp only [Act.put, List.setIfInBounds_toArray, List.set_cons_zero, List.set_cons_succ]
    refine wpAnyH_take (i := 2) (oi := { dst := some 70, op := Go.Op.move (Go.Operand.tmp 69), type := 4, pos := "law.go:95", after := #[{ on := 1, ground := Go.Ground.data }], guard := none }) (v := ?_) rfl (by kernel_rfl) (by kernel_rfl) (by kernel_rfl) (fun _ _ _ h => h) (Or.inl ⟨by rfl, ?_⟩) hS ?_
    rotate_left
    · (intro w hSw; (try dsimp only at hSw); go_simp; (try with_reducible rfl))
    try simp only [Act.put, List.setIfInBounds_toArray, List.set_cons_zero, List.set_cons_succ]
    refine wpAnyH_take (i := 3) (oi := { dst := some 71, op := Go.Op.load 39 (Go.Operand.tmp 11), type := 39, pos := "law.go:95", after := #[{ on := 2, ground := Go.Ground.guard }], guard := some (2, false) }) (v := ?_) rfl (by kernel_rfl) (by kernel_rfl) (by kernel_rfl) (fun _ _ _ h => h) (Or.inl ⟨by rfl, ?_⟩) hS ?_
    rotate_left
    · (intro w hSw; (try dsimp only at hSw); go_simp; (try with_reducible rfl))
    try simp only [Act.put, List.setIfInBounds_toArray, List.set_cons_zero, List.set_cons_succ]
    refine wpAnyH_take (i := 4) (oi := { dst := some 72, op := Go.Op.load 45 (Go.Operand.tmp 3), type := 45, pos := "law.go:95", after := #[{ on := 2, ground := Go.Ground.guard }], guard := some (2, false) }) (v := ?_) rfl (by kernel_rfl) (by kernel_rfl) (by kernel_rfl) (fun _ _ _ h => h) (Or.inl ⟨by rfl, ?_⟩) hS ?_
    rotate_left
    · (intro w hSw; (try dsimp only at hSw); go_simp; (try with_reducible rfl))
    try simp only [Act.put, List.setIfInBounds_toArray, List.set_cons_zero, List.set_cons_succ]
    refine wpAnyH_ready (rs := [5]) (by kernel_rfl) (by simp) ?_
    refine (AllReadyH.cons (o := { dst := some 73, op := Go.Op.call { callee := Go.Callee.value (Go.Operand.func 21), args := #[Go.Operand.tmp 72], argTypes := #[45] }, type := 39, pos := "law.go:95", after := #[{ on := 4, ground := Go.Ground.data }, { on := 2, ground := Go.Ground.chain }, { on := 2, ground := Go.Ground.guard }], guard := some (2, false) }) rfl (fun K hK => ?_) AllReadyH.nil)
    (go_simp; have H := Of_chunk (u := ua) (data := da) Ga.out (by omega) hF3.drew (ra.cons.cons.cons.cons.cons.cons.cons); refine H.mono ?_; clear H; rintro e w9 ⟨v, rfl, o9, q9, rfl, hF4⟩)
    refine hK.out _ _ (six' hF4 1 7 rfl rfl) (fun hS => ?_)
    clear hK K
    try simp only [Act.put, List.setIfInBounds_toArray, List.set_cons_zero, List.set_cons_succ]
    refine wpAnyH_ready (rs := [6]) (by kernel_rfl) (by simp) ?_
    refine (AllReadyH.cons (o := { dst := some 74, op := Go.Op.call { callee := Go.Callee.value (Go.Operand.func 20), args := #[Go.Operand.tmp 71, Go.Operand.tmp 73], argTypes := #[39, 39] }, type := 4, pos := "law.go:95", after := #[{ on := 3, ground := Go.Ground.data }, { on := 5, ground := Go.Ground.data }, { on := 5, ground := Go.Ground.chain }, { on := 2, ground := Go.Ground.guard }], guard := some (2, false) }) rfl (fun K hK => ?_) AllReadyH.nil)
    (go_simp; have H := Same_any (u1 := ua) (u2 := ua) (d1 := da) (d2 := da) Ga.out Ga.out (by omega) hF4 (fun W hW => reads_row hW 2 rfl) (fun W hW => reads_row hW 0 rfl); rw [SA.out] at H; refine H.mono ?_; clear H; rintro e wb ⟨v, rfl, rfl, hF5⟩)
    refine hK.out _ _ (six' hF5 1 7 rfl rfl) (fun hS => ?_)
    clear hK K
    try simp only [Act.put, List.setIfInBounds_toArray, List.set_cons_zero, List.set_cons_succ]
    refine wpAnyH_take (i := 7) (oi := { dst := some 75, op := Go.Op.unOp Go.UnOp.not 4 (Go.Operand.tmp 74), type := 4, pos := "law.go:95", after := #[{ on := 6, ground := Go.Ground.data }, { on := 2, ground := Go.Ground.guard }], guard := some (2, false) }) (v := ?_) rfl (by kernel_rfl) (by kernel_rfl) (by kernel_rfl) (fun _ _ _ h => h) (Or.inl ⟨by rfl, ?_⟩) hS ?_
    rotate_left
    · (intro w hSw; (try dsimp only at hSw); go_simp; (try with_reducible rfl))
    try simp only [Act.put, List.setIfInBounds_toArray, List.set_cons_zero, List.set_cons_succ]
    refine wpAnyH_take (i := 8) (oi := { dst := some 76, op := Go.Op.pick (Go.Operand.tmp 70) (Go.Operand.const (Go.Value.bool true)) (Go.Operand.tmp 75), type := 4, pos := "law.go:95", after := #[{ on := 2, ground := Go.Ground.data }, { on := 7, ground := Go.Ground.data }], guard := none }) (v := ?_) rfl (by kernel_rfl) (by kernel_rfl) (by kernel_rfl) (fun _ _ _ h => h) (Or.inl ⟨by rfl, ?_⟩) hS ?_
    rotate_left
    · (intro w hSw; (try dsimp only at hSw); go_simp; (try with_reducible rfl))
    try simp only [Act.put, List.setIfInBounds_toArray, List.set_cons_zero, List.set_cons_succ]
    refine wpAnyH_take (i := 9) (oi := { dst := some 77, op := Go.Op.move (Go.Operand.tmp 76), type := 4, pos := "law.go:95", after := #[{ on := 8, ground := Go.Ground.data }, { on := 6, ground := Go.Ground.chain }], guard := none }) (v := ?_) rfl (by kernel_rfl) (by kernel_rfl) (by kernel_rfl) (fun _ _ _ h => h) (Or.inl ⟨by rfl, ?_⟩) hS ?_
    rotate_left
    · (intro w hSw; (try dsimp only at hSw); go_simp; (try with_reducible rfl))
    try simp only [Act.put, List.setIfInBounds_toArray, List.set_cons_zero, List.set_cons_succ]
    refine wpAnyH_take (i := 10) (oi := { dst := some 78, op := Go.Op.move (Go.Operand.tmp 7), type := 42, pos := "law.go:95", after := #[{ on := 9, ground := Go.Ground.guard }], guard := some (9, false) }) (v := ?_) rfl (by kernel_rfl) (by kernel_rfl) (by kernel_rfl) (fun _ _ _ h => h) (Or.inl ⟨by rfl, ?_⟩) hS ?_
    rotate_left
    · (intro w hSw; (try dsimp only at hSw); go_simp; (try with_reducible rfl))
    try simp only [Act.put, List.setIfInBounds_toArray, List.set_cons_zero, List.set_cons_succ]
    refine wpAnyH_take (i := 11) (oi := { dst := some 79, op := Go.Op.call { callee := Go.Callee.builtin Go.Builtin.len, args := #[Go.Operand.tmp 78], argTypes := #[42] }, type := 3, pos := "law.go:95", after := #[{ on := 10, ground := Go.Ground.data }, { on := 9, ground := Go.Ground.guard }], guard := some (9, false) }) (v := ?_) rfl (by kernel_rfl) (by kernel_rfl) (by kernel_rfl) (fun _ _ _ h => h) (Or.inl ⟨by rfl, ?_⟩) hS ?_
    rotate_left
    · (intro w hSw; (try dsimp only at hSw); go_simp; (try with_reducible rfl))
    try simp only [Act.put, List.setIfInBounds_toArray, List.set_cons_zero, List.set_cons_succ]
    refine wpAnyH_take (i := 12) (oi := { dst := some 80, op := Go.Op.binOp Go.BinOp.gtr 3 (Go.Operand.tmp 79) (Go.Operand.const (Go.Value.int Go.IntKind.i64 340)) 3, type := 4, pos := "law.go:95", after := #[{ on := 11, ground := Go.Ground.data }, { on := 9, ground := Go.Ground.guard }], guard := some (9, false) }) (v := ?_) rfl (by kernel_rfl) (by kernel_rfl) (by kernel_rfl) (fun _ _ _ h => h) (Or.inl ⟨by rfl, ?_⟩) hS ?_
    rotate_left
    · (intro w hSw; (try dsimp only at hSw); go_simp; (try with_reducible rfl))
    try simp only [Act.put, List.setIfInBounds_toArray, List.set_cons_zero, List.set_cons_succ]
    refine wpAnyH_take (i := 13) (oi := { dst := some 81, op := Go.Op.pick (Go.Operand.tmp 77) (Go.Operand.const (Go.Value.bool true)) (Go.Operand.tmp 80), type := 4, pos := "law.go:95", after := #[{ on := 9, ground := Go.Ground.data }, { on := 12, ground := Go.Ground.data }], guard := none }) (v := ?_) rfl (by kernel_rfl) (by kernel_rfl) (by kernel_rfl) (fun _ _ _ h => h) (Or.inl ⟨by rfl, ?_⟩) hS ?_
    rotate_left
    · (intro w hSw; (try dsimp only at hSw); go_simp; (try with_reducible rfl))
    try simp only [Act.put, List.setIfInBounds_toArray, List.set_cons_zero, List.set_cons_succ]
    refine wpAnyH_done (by kernel_rfl) ?_ _
    all_goals
      clear hS
      go_wp2
      go_loopw [13] (fun i wr => ∃ k : Nat, k ≤ ka.length ∧ i = .int .i64 k ∧ Ent (rowK o9 q9 ka :: pt b11 (.cells #[.int .u8 ua.toNat, .string ⟨da.toArray⟩, .slice at1 ka.length ct1] 39) :: rowK at1 ct1 ka :: rowK ob pb kb :: rowB ax cx (putC ⟨ua, da, ka⟩) :: rowK oa pa ka :: pt b4 (.cells #[.int .u8 ub.toNat, .string ⟨db.toArray⟩, .slice ab kb.length cb] 45) :: pt b3 (.cells #[.int .u8 ua.toNat, .string ⟨da.toArray⟩, .slice aa ka.length ca] 45) :: l) wr) (fun i _ => ka.length - (intOf i).toNat)
      case atStart => exact ⟨0, Nat.zero_le _, rfl, hF5⟩
      case round =>
        clear hF5
        obtain ⟨k, hkl, rfl, hF5⟩ := hrel
        by_cases hlt : k < ka.length
        · obtain ⟨bk, ok, rfl, _⟩ := reads_form (reads_row hF5 2 rfl) (by omega) (by rw [kidCells_len Ga.out]; omega)
          have Hc34 := SL.hid (show ∀ (L : List HProp) (W : World), L[2]? = some (rowK (some ⟨bk, ok, none⟩) ct1 ka) → Ent L W → W.cell? ⟨bk, ok + k * 36 + 34, none⟩ = some (.int .u8 (ka[k]).height.toNat) from fun L W hL hW => by
            have h0 := kc34 (Ga.out _ (List.getElem_mem hlt))
            rw [List.getElem?_toArray] at h0
            have h1 := kid_cells Ga.out (reads_row hW 2 hL) hlt 34 _ h0
            rwa [Addr.add_lit] at h1)
          have hlow := Hab.out _ (List.getElem_mem hlt)
          have hH : hgt ⟨ua, da, ka⟩ = hgtB ua ka := rfl
          rw [hH] at hlow
          have hw34 : IntKind.i64.wrap ((ka[k]).height.toNat : Int) = (ka[k]).height.toNat := by have := (ka[k]).height.toNat_lt; rw [wrap_id (by omega)]
          generalize (ka[k]).height.toNat = g at *
          have hHt : ∀ {L : List HProp} {w : World}, Ent L w → Knows L (reads (.slice (some ⟨bk, ok, none⟩) ka.length ct1) ka.length (kidCells ka)) → Calls Try.prog 24 #[.agg #[.int .u8 ua.toNat, .string ⟨da.toArray⟩, .slice (some ⟨bk, ok, none⟩) ka.length ct1]] w (Ret fun v w' => v = .int .i64 (hgtB ua ka) ∧ Ent L w') := fun h k => Height_any (u := ua) (data := da) Ga.out (by omega) h k
          generalize hgtB ua ka = hh at *
          have hle : ¬ (hh ≤ g) := by omega
          have hle2 : decide ((hh : Int) ≤ (g : Int)) = false := decide_eq_false (by omega)
          go_wp2_with (first
            | go_skip
            | ((with_reducible (show Go.wpList _ _ _ (Go.Oper.mk _ (.load _ _) _ _ _ _ :: _) _ _)); refine wpl_load1 hF5 1 rfl rfl rfl rfl (by simp [go_sem]) rfl ?_))
          refine wp_region_held_drew (S := (fun w' => w'.cell? ⟨b11, 0, none⟩ = some (.int .u8 ua.toNat) ∧ w'.cell? ⟨b11, 1, none⟩ = some (.string ⟨da.toArray⟩) ∧ w'.cell? ⟨b11, 2, none⟩ = some (.slice (some ⟨bk, ok, none⟩) ka.length ct1) ∧ w'.cell? ⟨bk, ok + k * 36 + 34, none⟩ = some (.int .u8 g))) (by kernel_rfl) ⟨hF5.drew.cell 1 rfl 0, hF5.drew.cell 1 rfl 1, hF5.drew.cell 1 rfl 2, Hc34.out _ _ rfl hF5.drew⟩ (fun hS => ?_)
          refine wpAnyH_take (i := 0) (oi := { dst := some 89, op := Go.Op.load 39 (Go.Operand.tmp 11), type := 39, pos := "law.go:99", after := #[], guard := none }) (v := ?_) rfl (by kernel_rfl) (by kernel_rfl) (by kernel_rfl) (fun _ _ _ h => h) (Or.inl ⟨by rfl, ?_⟩) hS ?_
          rotate_left
          · (intro w hSw; (try dsimp only at hSw); go_simp; (try with_reducible rfl))
          try simp only [Act.put, List.setIfInBounds_toArray, List.set_cons_zero, List.set_cons_succ]
          refine wpAnyH_take (i := 2) (oi := { dst := some 91, op := Go.Op.fieldAddr 39 (Go.Operand.tmp 11) 2, type := 0, pos := "law.go:99", after := #[], guard := none }) (v := ?_) rfl (by kernel_rfl) (by kernel_rfl) (by kernel_rfl) (fun _ _ _ h => h) (Or.inl ⟨by rfl, ?_⟩) hS ?_
          rotate_left
          · (intro w hSw; (try dsimp only at hSw); go_simp; (try with_reducible rfl))
          try simp only [Act.put, List.setIfInBounds_toArray, List.set_cons_zero, List.set_cons_succ]
          refine wpAnyH_take (i := 3) (oi := { dst := some 92, op := Go.Op.load 37 (Go.Operand.tmp 91), type := 37, pos := "law.go:99", after := #[{ on := 2, ground := Go.Ground.data }], guard := none }) (v := ?_) rfl (by kernel_rfl) (by kernel_rfl) (by kernel_rfl) (fun _ _ _ h => h) (Or.inl ⟨by rfl, ?_⟩) hS ?_
          rotate_left
          · (intro w hSw; (try dsimp only at hSw); go_simp; (try with_reducible rfl))
          try simp only [Act.put, List.setIfInBounds_toArray, List.set_cons_zero, List.set_cons_succ]
          refine wpAnyH_take (i := 4) (oi := { dst := some 93, op := Go.Op.move (Go.Operand.tmp 13), type := 3, pos := "law.go:99", after := #[], guard := none }) (v := ?_) rfl (by kernel_rfl) (by kernel_rfl) (by kernel_rfl) (fun _ _ _ h => h) (Or.inl ⟨by rfl, ?_⟩) hS ?_
          rotate_left
          · (intro w hSw; (try dsimp only at hSw); go_simp; (try with_reducible rfl))
          try simp only [Act.put, List.setIfInBounds_toArray, List.set_cons_zero, List.set_cons_succ]
          refine wpAnyH_take (i := 5) (oi := { dst := some 94, op := Go.Op.indexAddr 37 (Go.Operand.tmp 92) (Go.Operand.tmp 93), type := 0, pos := "law.go:99", after := #[{ on := 3, ground := Go.Ground.data }, { on := 4, ground := Go.Ground.data }], guard := none }) (v := ?_) rfl (by kernel_rfl) (by kernel_rfl) (by kernel_rfl) (fun _ _ _ h => h) (Or.inl ⟨by rfl, ?_⟩) hS ?_
          rotate_left
          · (intro w hSw; (try dsimp only at hSw); go_simp; (try with_reducible rfl))
          try simp only [Act.put, List.setIfInBounds_toArray, List.set_cons_zero, List.set_cons_succ]
          refine wpAnyH_take (i := 6) (oi := { dst := some 95, op := Go.Op.fieldAddr 59 (Go.Operand.tmp 94) 3, type := 0, pos := "law.go:99", after := #[{ on := 5, ground := Go.Ground.data }], guard := none }) (v := ?_) rfl (by kernel_rfl) (by kernel_rfl) (by kernel_rfl) (fun _ _ _ h => h) (Or.inl ⟨by rfl, ?_⟩) hS ?_
          rotate_left
          · (intro w hSw; (try dsimp only at hSw); go_simp; (try with_reducible rfl))
          try simp only [Act.put, List.setIfInBounds_toArray, List.set_cons_zero, List.set_cons_succ]
          refine wpAnyH_take (i := 7) (oi := { dst := some 96, op := Go.Op.load 5 (Go.Operand.tmp 95), type := 5, pos := "law.go:99", after := #[{ on := 6, ground := Go.Ground.data }], guard := none }) (v := ?_) rfl (by kernel_rfl) (by kernel_rfl) (by kernel_rfl) (fun _ _ _ h => h) (Or.inl ⟨by rfl, ?_⟩) hS ?_
          rotate_left
          · (intro w hSw; (try dsimp only at hSw); go_simp; (try with_reducible rfl))
          try simp only [Act.put, List.setIfInBounds_toArray, List.set_cons_zero, List.set_cons_succ]
          refine wpAnyH_take (i := 8) (oi := { dst := some 97, op := Go.Op.convert 5 3 (Go.Operand.tmp 96), type := 3, pos := "law.go:99", after := #[{ on := 7, ground := Go.Ground.data }], guard := none }) (v := ?_) rfl (by kernel_rfl) (by kernel_rfl) (by kernel_rfl) (fun _ _ _ h => h) (Or.inl ⟨by rfl, ?_⟩) hS ?_
          rotate_left
          · (intro w hSw; (try dsimp only at hSw); go_simp; (try with_reducible rfl))
          try simp only [Act.put, List.setIfInBounds_toArray, List.set_cons_zero, List.set_cons_succ]
          refine wpAnyH_ready (rs := [1]) (by kernel_rfl) (by simp) ?_
          refine (AllReadyH.cons (o := { dst := some 90, op := Go.Op.call { callee := Go.Callee.value (Go.Operand.func 24), args := #[Go.Operand.tmp 89], argTypes := #[39] }, type := 3, pos := "law.go:99", after := #[{ on := 0, ground := Go.Ground.data }], guard := none }) rfl (fun K hK => ?_) AllReadyH.nil)
          (go_simp; refine (hHt hF5.drew (fun W hW => reads_row hW 2 rfl)).mono ?_; rintro e w9 ⟨v, rfl, rfl, hF6⟩)
          refine hK.out _ _ ⟨hF6.cell 1 rfl 0, hF6.cell 1 rfl 1, hF6.cell 1 rfl 2, Hc34.out _ _ rfl hF6⟩ (fun hS => ?_)
          clear hK K
          try simp only [Act.put, List.setIfInBounds_toArray, List.set_cons_zero, List.set_cons_succ]
          refine wpAnyH_take (i := 9) (oi := { dst := some 98, op := Go.Op.binOp Go.BinOp.leq 3 (Go.Operand.tmp 90) (Go.Operand.tmp 97) 3, type := 4, pos := "law.go:99", after := #[{ on := 1, ground := Go.Ground.data }, { on := 8, ground := Go.Ground.data }], guard := none }) (v := ?_) rfl (by kernel_rfl) (by kernel_rfl) (by kernel_rfl) (fun _ _ _ h => h) (Or.inl ⟨by rfl, ?_⟩) hS ?_
          rotate_left
          · (intro w hSw; (try dsimp only at hSw); go_simp; (try with_reducible rfl))
          try simp only [Act.put, List.setIfInBounds_toArray, List.set_cons_zero, List.set_cons_succ]
          refine wpAnyH_done (by kernel_rfl) ?_ _
          all_goals
            go_wp2
            go_roundw
            case rel => exact ⟨k + 1, hlt, by simp, hF6⟩
            case measure => simp [intOf]; omega
        · have hkk : k = ka.length := by omega
          subst hkk
          go_wp2_with (first
            | go_skip
            | ((with_reducible (show Go.wpList _ _ _ (Go.Oper.mk _ (.load 37 _) _ _ _ _ :: _) _ _)); refine wpl_load1 hF5 1 rfl rfl rfl rfl (by simp [go_sem]) rfl ?_)
            | (go_at_call 18; have H := cTake_any (bs := bs) hbs hF5 (rs.cons.cons.cons.cons.cons.cons.cons.cons); rw [K1.out, K2.out] at H; refine H.mono ?_; clear H hF5; rintro e w2 ⟨v, rfl, as1, cs1, rfl, hG1⟩)
            | ((with_reducible (show Go.wpList _ _ _ (Go.Oper.mk _ (.alloc _) _ _ _ _ :: _) _ _)); refine wpl_alloc hG1 rfl rfl (by simp [go_sem]; rfl) ?_; clear hG1; intro b14 w hG2; simp only [Act.eval, Act.put, List.setIfInBounds_toArray, List.set_cons_zero, List.set_cons_succ, getD_lit, List.getD_cons_succ, List.getD_cons_zero, Value.cells] at hG2)
            | ((with_reducible (show Go.wpList _ _ _ (Go.Oper.mk _ (.store _ (.tmp 14) _) _ _ _ _ :: _) _ _)); refine wpl_storeW hG2 0 rfl rfl rfl (xs := [.int .u8 0, .string ⟨#[]⟩, .slice as1 0 cs1]) rfl rfl Try.sizeOf39 rfl (by simp [Value.oneCell']) rfl ?_; clear hG2; intro w hG3; simp only [List.set_cons_zero, List.set_cons_succ] at hG3)
            | ((with_reducible (show Go.wpList _ _ _ (Go.Oper.mk _ (.load _ _) _ _ _ _ :: _) _ _)); refine wpl_load1 hG3 0 rfl rfl rfl rfl (by simp [go_sem]) rfl ?_)
            | (go_at_call 17; have H := wakes12_any hG3; refine H.mono ?_; clear H hG3; rintro e w2 ⟨v, rfl, rfl, hZ⟩))
          go_ret
          exact ⟨_, rfl, rfl, hZ.tail.tail.tail.tail.tail.tail.tail.tail.tail.tail⟩


set_option maxRecDepth 100000 in
set_option maxHeartbeats 4000000 in
theorem back_101 {ua ub : UInt8} {da db bs : List UInt8} {ka kb : List Kid} {aa ab ai : Option Addr} {ca cb ci : Nat} (ga : ∀ k ∈ ka, k.good) (gb : ∀ k ∈ kb, k.good) {l : List HProp} {w : World} (hE : Ent l w)
    (ra : Knows l (reads (.slice aa ka.length ca) ka.length (kidCells ka))) (rb : Knows l (reads (.slice ab kb.length cb) kb.length (kidCells kb))) (rs : Knows l (reads (.slice ai bs.length ci) bs.length (bvals bs))) {cs : Chunk} (GA : RowKit.Hid (greatC ⟨ua, da, ka⟩ = false)) (GB : RowKit.Hid (greatC ⟨ub, db, kb⟩ = false)) (h6 : decide ((600 : Int) < (bs.length : Int)) = false) (MA : RowKit.Hid (mayC ⟨ua, da, ka⟩ = true)) (MB : RowKit.Hid (mayC ⟨ub, db, kb⟩ = false)) (TS : RowKit.Hid (takeC bs = some cs)) :
    Calls Try.prog 6 #[.agg #[.int .u8 ua.toNat, .string ⟨da.toArray⟩, .slice aa ka.length ca], .agg #[.int .u8 ub.toNat, .string ⟨db.toArray⟩, .slice ab kb.length cb], .slice ai bs.length ci] w (Ret fun v w' => v = .bool true ∧ Ent l w') := by
  have Ga := SL.hid ga
  have Gb := SL.hid gb
  clear ga gb
  have hbs : bs.length ≤ 1000000 := by have := of_decide_eq_false h6; omega
  have nA := (greatC_false GA.out).1
  have nB := (greatC_false GB.out).1
  simp only at nA nB
  have PA := SL.hid (takeC_put' (c := ⟨ua, da, ka⟩) Ga.out MA.out)
  have hpl := putC_len (c := ⟨ua, da, ka⟩) Ga.out MA.out
  have Hab := SL.hid (hgt_above (c := ⟨ua, da, ka⟩) MA.out)
  have SA := SL.hid (show sameC ⟨ua, da, ka⟩ ⟨ua, da, ka⟩ = true from sameC_iff.2 rfl)
  obtain ⟨cm, cp, ce, _⟩ := takeC_some TS.out
  have K1 := SL.hid (show resC bs = cs by unfold resC; rw [TS.out]; rfl)
  have K2 := SL.hid (show errC bs = 0 by unfold errC; rw [TS.out]; rfl)
  have CG := SL.hid (show ∀ k ∈ cs.kids, k.good by rw [ce]; exact pchunk_good bs)
  have CM := SL.hid (show mayC ⟨cs.kind, cs.data, cs.kids⟩ = true from cm)
  have CP := SL.hid (show putC ⟨cs.kind, cs.data, cs.kids⟩ = bs from cp)
  clear cm cp ce
  go_enter Try.func6, Try.ntmps6
  go_wp2_with (first
    | go_skip
    | ((with_reducible (show Go.wpList _ _ _ (Go.Oper.mk _ (.box _ (.tmp 0)) _ _ _ _ :: _) _ _)); refine wpl_box hE rfl rfl rfl ?_; clear hE; intro b3 w hE1; simp only [Act.eval, Act.put, List.setIfInBounds_toArray, List.set_cons_zero, List.set_cons_succ, getD_lit, List.getD_cons_succ, List.getD_cons_zero, Value.cells] at hE1)
    | ((with_reducible (show Go.wpList _ _ _ (Go.Oper.mk _ (.box _ (.tmp 1)) _ _ _ _ :: _) _ _)); refine wpl_box hE1 rfl rfl rfl ?_; clear hE1; intro b4 w hE2; simp only [Act.eval, Act.put, List.setIfInBounds_toArray, List.set_cons_zero, List.set_cons_succ, getD_lit, List.getD_cons_succ, List.getD_cons_zero, Value.cells] at hE2)
    | ((with_reducible (show Go.wpList _ _ _ (Go.Oper.mk _ (.load _ (.tmp 3)) _ _ _ _ :: _) _ _)); refine wpl_loadW hE2 1 rfl rfl rfl rfl Try.isAgg45 Try.sizeOf45 (xs := [.int .u8 ua.toNat, .string ⟨da.toArray⟩, .slice aa ka.length ca]) rfl ?_)
    | (go_at_call 22; have H := great_any (u := ua) (data := da) Ga.out hE2 ra.cons.cons; rw [GA.out] at H; refine H.mono ?_; clear H hE2; rintro e w2 ⟨v, rfl, rfl, hE3⟩)
    | ((with_reducible (show Go.wpList _ _ _ (Go.Oper.mk _ (.load _ (.tmp 4)) _ _ _ _ :: _) _ _)); refine wpl_loadW hE3 0 rfl rfl rfl rfl Try.isAgg45 Try.sizeOf45 (xs := [.int .u8 ub.toNat, .string ⟨db.toArray⟩, .slice ab kb.length cb]) rfl ?_)
    | (go_at_call 22; have H := great_any (u := ub) (data := db) Gb.out hE3 rb.cons.cons; rw [GB.out] at H; refine H.mono ?_; clear H hE3; rintro e w2 ⟨v, rfl, rfl, hE4⟩)
    | ((with_reducible (show Go.wpList _ _ _ (Go.Oper.mk _ (.load _ (.tmp 3)) _ _ _ _ :: _) _ _)); refine wpl_loadW hE4 1 rfl rfl rfl rfl Try.isAgg45 Try.sizeOf45 (xs := [.int .u8 ua.toNat, .string ⟨da.toArray⟩, .slice aa ka.length ca]) rfl ?_)
    | (go_at_call 21; have H := Of_chunk (u := ua) (data := da) Ga.out (by omega) hE4 ra.cons.cons; refine H.mono ?_; clear H hE4; rintro e w2 ⟨v, rfl, oa, pa, rfl, hE5⟩)
    | (go_at_call 23; have H := cPut_yes (u := ua) (data := da) Ga.out MA.out hE5 (fun W hW => reads_row hW 0 rfl); refine H.mono ?_; clear H hE5; rintro e w2 ⟨v, rfl, ax, cx, rfl, hE6⟩)
    | ((with_reducible (show Go.wpList _ _ _ (Go.Oper.mk _ (.load _ (.tmp 4)) _ _ _ _ :: _) _ _)); refine wpl_loadW hE6 2 rfl rfl rfl rfl Try.isAgg45 Try.sizeOf45 (xs := [.int .u8 ub.toNat, .string ⟨db.toArray⟩, .slice ab kb.length cb]) rfl ?_)
    | (go_at_call 21; have H := Of_chunk (u := ub) (data := db) Gb.out (by omega) hE6 rb.cons.cons.cons.cons; refine H.mono ?_; clear H hE6; rintro e w2 ⟨v, rfl, ob, pb, rfl, hE7⟩)
    | (go_at_call 23; have H := cPut_no (u := ub) (data := db) Gb.out (by omega) MB.out hE7 (fun W hW => reads_row hW 0 rfl); refine H.mono ?_; clear H hE7; rintro e w2 ⟨v, rfl, rfl, hE8⟩))
  refine wp_region_held_drew (S := (fun _ => True)) (by kernel_rfl) trivial (fun hS => ?_)
  refine wpAnyH_take (i := 0) (oi := { dst := some 42, op := Go.Op.move (Go.Operand.tmp 8), type := 25, pos := "law.go:90", after := #[], guard := none }) (v := ?_) rfl (by kernel_rfl) (by kernel_rfl) (by kernel_rfl) (fun _ _ _ h => h) (Or.inl ⟨by rfl, ?_⟩) hS ?_
  rotate_left
  · (intro w hSw; (try dsimp only at hSw); go_simp; (try with_reducible rfl))
  try simp only [Act.put, List.setIfInBounds_toArray, List.set_cons_zero, List.set_cons_succ]
  refine wpAnyH_take (i := 1) (oi := { dst := some 43, op := Go.Op.binOp Go.BinOp.eql 25 (Go.Operand.tmp 42) (Go.Operand.const (Go.Value.int Go.IntKind.i64 0)) 25, type := 4, pos := "law.go:90", after := #[{ on := 0, ground := Go.Ground.data }], guard := none }) (v := ?_) rfl (by kernel_rfl) (by kernel_rfl) (by kernel_rfl) (fun _ _ _ h => h) (Or.inl ⟨by rfl, ?_⟩) hS ?_
  rotate_left
  · (intro w hSw; (try dsimp only at hSw); go_simp; (try with_reducible rfl))
  try simp only [Act.put, List.setIfInBounds_toArray, List.set_cons_zero, List.set_cons_succ]
  refine wpAnyH_take (i := 2) (oi := { dst := some 44, op := Go.Op.move (Go.Operand.tmp 43), type := 4, pos := "law.go:90", after := #[{ on := 1, ground := Go.Ground.data }], guard := none }) (v := ?_) rfl (by kernel_rfl) (by kernel_rfl) (by kernel_rfl) (fun _ _ _ h => h) (Or.inl ⟨by rfl, ?_⟩) hS ?_
  rotate_left
  · (intro w hSw; (try dsimp only at hSw); go_simp; (try with_reducible rfl))
  try simp only [Act.put, List.setIfInBounds_toArray, List.set_cons_zero, List.set_cons_succ]
  refine wpAnyH_take (i := 3) (oi := { dst := some 45, op := Go.Op.move (Go.Operand.tmp 10), type := 25, pos := "law.go:90", after := #[{ on := 2, ground := Go.Ground.guard }], guard := some (2, true) }) (v := ?_) rfl (by kernel_rfl) (by kernel_rfl) (by kernel_rfl) (fun _ _ _ h => h) (Or.inl ⟨by rfl, ?_⟩) hS ?_
  rotate_left
  · (intro w hSw; (try dsimp only at hSw); go_simp; (try with_reducible rfl))
  try simp only [Act.put, List.setIfInBounds_toArray, List.set_cons_zero, List.set_cons_succ]
  refine wpAnyH_take (i := 4) (oi := { dst := some 46, op := Go.Op.binOp Go.BinOp.eql 25 (Go.Operand.tmp 45) (Go.Operand.const (Go.Value.int Go.IntKind.i64 0)) 25, type := 4, pos := "law.go:90", after := #[{ on := 3, ground := Go.Ground.data }, { on := 2, ground := Go.Ground.guard }], guard := some (2, true) }) (v := ?_) rfl (by kernel_rfl) (by kernel_rfl) (by kernel_rfl) (fun _ _ _ h => h) (Or.inl ⟨by rfl, ?_⟩) hS ?_
  rotate_left
  · (intro w hSw; (try dsimp only at hSw); go_simp; (try with_reducible rfl))
  try simp only [Act.put, List.setIfInBounds_toArray, List.set_cons_zero, List.set_cons_succ]
  refine wpAnyH_take (i := 5) (oi := { dst := some 47, op := Go.Op.pick (Go.Operand.tmp 44) (Go.Operand.tmp 46) (Go.Operand.const (Go.Value.bool false)), type := 4, pos := "law.go:90", after := #[{ on := 2, ground := Go.Ground.data }, { on := 4, ground := Go.Ground.data }], guard := none }) (v := ?_) rfl (by kernel_rfl) (by kernel_rfl) (by kernel_rfl) (fun _ _ _ h => h) (Or.inl ⟨by rfl, ?_⟩) hS ?_
  rotate_left
  · (intro w hSw; (try dsimp only at hSw); go_simp; (try with_reducible rfl))
  try simp only [Act.put, List.setIfInBounds_toArray, List.set_cons_zero, List.set_cons_succ]
  refine wpAnyH_take (i := 6) (oi := { dst := some 48, op := Go.Op.move (Go.Operand.tmp 47), type := 4, pos := "law.go:90", after := #[{ on := 5, ground := Go.Ground.data }, { on := 2, ground := Go.Ground.chain }], guard := none }) (v := ?_) rfl (by kernel_rfl) (by kernel_rfl) (by kernel_rfl) (fun _ _ _ h => h) (Or.inl ⟨by rfl, ?_⟩) hS ?_
  rotate_left
  · (intro w hSw; (try dsimp only at hSw); go_simp; (try with_reducible rfl))
  try simp only [Act.put, List.setIfInBounds_toArray, List.set_cons_zero, List.set_cons_succ]
  refine wpAnyH_take (i := 7) (oi := { dst := some 49, op := Go.Op.move (Go.Operand.tmp 7), type := 42, pos := "law.go:90", after := #[{ on := 6, ground := Go.Ground.guard }], guard := some (6, true) }) (v := undef) rfl (by kernel_rfl) (by kernel_rfl) (by kernel_rfl) (fun _ _ _ h => h) (Or.inr ⟨by rfl, rfl⟩) hS ?_
  try simp only [Act.put, List.setIfInBounds_toArray, List.set_cons_zero, List.set_cons_succ]
  refine wpAnyH_take (i := 8) (oi := { dst := some 50, op := Go.Op.convert 42 9 (Go.Operand.tmp 49), type := 9, pos := "law.go:90", after := #[{ on := 7, ground := Go.Ground.data }, { on := 6, ground := Go.Ground.guard }], guard := some (6, true) }) (v := undef) rfl (by kernel_rfl) (by kernel_rfl) (by kernel_rfl) (fun _ _ _ h => h) (Or.inr ⟨by rfl, rfl⟩) hS ?_
  try simp only [Act.put, List.setIfInBounds_toArray, List.set_cons_zero, List.set_cons_succ]
  refine wpAnyH_take (i := 9) (oi := { dst := some 51, op := Go.Op.move (Go.Operand.tmp 9), type := 42, pos := "law.go:90", after := #[{ on := 6, ground := Go.Ground.guard }], guard := some (6, true) }) (v := undef) rfl (by kernel_rfl) (by kernel_rfl) (by kernel_rfl) (fun _ _ _ h => h) (Or.inr ⟨by rfl, rfl⟩) hS ?_
  try simp only [Act.put, List.setIfInBounds_toArray, List.set_cons_zero, List.set_cons_succ]
  refine wpAnyH_take (i := 10) (oi := { dst := some 52, op := Go.Op.convert 42 9 (Go.Operand.tmp 51), type := 9, pos := "law.go:90", after := #[{ on := 9, ground := Go.Ground.data }, { on := 6, ground := Go.Ground.guard }], guard := some (6, true) }) (v := undef) rfl (by kernel_rfl) (by kernel_rfl) (by kernel_rfl) (fun _ _ _ h => h) (Or.inr ⟨by rfl, rfl⟩) hS ?_
  try simp only [Act.put, List.setIfInBounds_toArray, List.set_cons_zero, List.set_cons_succ]
  refine wpAnyH_take (i := 11) (oi := { dst := some 53, op := Go.Op.binOp Go.BinOp.eql 9 (Go.Operand.tmp 50) (Go.Operand.tmp 52) 9, type := 4, pos := "law.go:90", after := #[{ on := 8, ground := Go.Ground.data }, { on := 10, ground := Go.Ground.data }, { on := 6, ground := Go.Ground.guard }], guard := some (6, true) }) (v := undef) rfl (by kernel_rfl) (by kernel_rfl) (by kernel_rfl) (fun _ _ _ h => h) (Or.inr ⟨by rfl, rfl⟩) hS ?_
  try simp only [Act.put, List.setIfInBounds_toArray, List.set_cons_zero, List.set_cons_succ]
  refine wpAnyH_take (i := 12) (oi := { dst := some 54, op := Go.Op.load 45 (Go.Operand.tmp 3), type := 45, pos := "law.go:90", after := #[{ on := 6, ground := Go.Ground.guard }], guard := some (6, true) }) (v := undef) rfl (by kernel_rfl) (by kernel_rfl) (by kernel_rfl) (fun _ _ _ h => h) (Or.inr ⟨by rfl, rfl⟩) hS ?_
  try simp only [Act.put, List.setIfInBounds_toArray, List.set_cons_zero, List.set_cons_succ]
  refine wpAnyH_take (i := 13) (oi := { dst := some 55, op := Go.Op.call { callee := Go.Callee.value (Go.Operand.func 21), args := #[Go.Operand.tmp 54], argTypes := #[45] }, type := 39, pos := "law.go:90", after := #[{ on := 12, ground := Go.Ground.data }, { on := 6, ground := Go.Ground.chain }, { on := 6, ground := Go.Ground.guard }], guard := some (6, true) }) (v := undef) rfl (by kernel_rfl) (by kernel_rfl) (by kernel_rfl) (fun _ _ _ h => h) (Or.inr ⟨by rfl, rfl⟩) hS ?_
  try simp only [Act.put, List.setIfInBounds_toArray, List.set_cons_zero, List.set_cons_succ]
  refine wpAnyH_take (i := 14) (oi := { dst := some 56, op := Go.Op.load 45 (Go.Operand.tmp 4), type := 45, pos := "law.go:90", after := #[{ on := 6, ground := Go.Ground.guard }], guard := some (6, true) }) (v := undef) rfl (by kernel_rfl) (by kernel_rfl) (by kernel_rfl) (fun _ _ _ h => h) (Or.inr ⟨by rfl, rfl⟩) hS ?_
  try simp only [Act.put, List.setIfInBounds_toArray, List.set_cons_zero, List.set_cons_succ]
  refine wpAnyH_take (i := 15) (oi := { dst := some 57, op := Go.Op.call { callee := Go.Callee.value (Go.Operand.func 21), args := #[Go.Operand.tmp 56], argTypes := #[45] }, type := 39, pos := "law.go:90", after := #[{ on := 14, ground := Go.Ground.data }, { on := 13, ground := Go.Ground.chain }, { on := 6, ground := Go.Ground.guard }], guard := some (6, true) }) (v := undef) rfl (by kernel_rfl) (by kernel_rfl) (by kernel_rfl) (fun _ _ _ h => h) (Or.inr ⟨by rfl, rfl⟩) hS ?_
  try simp only [Act.put, List.setIfInBounds_toArray, List.set_cons_zero, List.set_cons_succ]
  refine wpAnyH_take (i := 16) (oi := { dst := some 58, op := Go.Op.call { callee := Go.Callee.value (Go.Operand.func 20), args := #[Go.Operand.tmp 55, Go.Operand.tmp 57], argTypes := #[39, 39] }, type := 4, pos := "law.go:90", after := #[{ on := 13, ground := Go.Ground.data }, { on := 15, ground := Go.Ground.data }, { on := 15, ground := Go.Ground.chain }, { on := 6, ground := Go.Ground.guard }], guard := some (6, true) }) (v := undef) rfl (by kernel_rfl) (by kernel_rfl) (by kernel_rfl) (fun _ _ _ h => h) (Or.inr ⟨by rfl, rfl⟩) hS ?_
  try simp only [Act.put, List.setIfInBounds_toArray, List.set_cons_zero, List.set_cons_succ]
  refine wpAnyH_take (i := 17) (oi := { dst := some 59, op := Go.Op.binOp Go.BinOp.neq 4 (Go.Operand.tmp 53) (Go.Operand.tmp 58) 4, type := 4, pos := "law.go:90", after := #[{ on := 11, ground := Go.Ground.data }, { on := 16, ground := Go.Ground.data }, { on := 6, ground := Go.Ground.guard }], guard := some (6, true) }) (v := undef) rfl (by kernel_rfl) (by kernel_rfl) (by kernel_rfl) (fun _ _ _ h => h) (Or.inr ⟨by rfl, rfl⟩) hS ?_
  try simp only [Act.put, List.setIfInBounds_toArray, List.set_cons_zero, List.set_cons_succ]
  refine wpAnyH_take (i := 18) (oi := { dst := some 60, op := Go.Op.pick (Go.Operand.tmp 48) (Go.Operand.tmp 59) (Go.Operand.const (Go.Value.bool false)), type := 4, pos := "law.go:90", after := #[{ on := 6, ground := Go.Ground.data }, { on := 17, ground := Go.Ground.data }], guard := none }) (v := ?_) rfl (by kernel_rfl) (by kernel_rfl) (by kernel_rfl) (fun _ _ _ h => h) (Or.inl ⟨by rfl, ?_⟩) hS ?_
  rotate_left
  · (intro w hSw; (try dsimp only at hSw); go_simp; (try with_reducible rfl))
  try simp only [Act.put, List.setIfInBounds_toArray, List.set_cons_zero, List.set_cons_succ]
  refine wpAnyH_done (by kernel_rfl) ?_ _
  all_goals
    replace hE8 := hE8.drew
    go_wp2_with (first
      | go_skip
      | (go_at_call 18; have H := cTake_any (bs := putC ⟨ua, da, ka⟩) (by omega) hE8 (fun W hW => reads_row hW 1 rfl); rw [PA.out.1, PA.out.2] at H; refine H.mono ?_; clear H hE8; rintro e w2 ⟨v, rfl, at1, ct1, rfl, hF1⟩)
      | ((with_reducible (show Go.wpList _ _ _ (Go.Oper.mk _ (.alloc _) _ _ _ _ :: _) _ _)); refine wpl_alloc hF1 rfl rfl (by simp [go_sem]; rfl) ?_; clear hF1; intro b11 w hF2; simp only [Act.eval, Act.put, List.setIfInBounds_toArray, List.set_cons_zero, List.set_cons_succ, getD_lit, List.getD_cons_succ, List.getD_cons_zero, Value.cells] at hF2)
      | ((with_reducible (show Go.wpList _ _ _ (Go.Oper.mk _ (.store _ (.tmp 11) _) _ _ _ _ :: _) _ _)); refine wpl_storeW hF2 0 rfl rfl rfl (xs := [.int .u8 ua.toNat, .string ⟨da.toArray⟩, .slice at1 ka.length ct1]) rfl rfl Try.sizeOf39 rfl (by simp [Value.oneCell']) rfl ?_; clear hF2; intro w hF3; simp only [List.set_cons_zero, List.set_cons_succ] at hF3))
    have hp340 : decide ((340 : Int) < ((putC ⟨ua, da, ka⟩).length : Int)) = false := decide_eq_false (by omega)
    refine wp_region_held_drew (S := (fun w' => (w'.cell? ⟨b11, 0, none⟩ = some (.int .u8 ua.toNat) ∧ w'.cell? ⟨b11, 1, none⟩ = some (.string ⟨da.toArray⟩) ∧ w'.cell? ⟨b11, 2, none⟩ = some (.slice at1 ka.length ct1)) ∧ (w'.cell? ⟨b3, 0, none⟩ = some (.int .u8 ua.toNat) ∧ w'.cell? ⟨b3, 1, none⟩ = some (.string ⟨da.toArray⟩) ∧ w'.cell? ⟨b3, 2, none⟩ = some (.slice aa ka.length ca)))) (by kernel_rfl) (six' hF3.drew 0 6 rfl rfl) (fun hS => ?_)
    refine wpAnyH_take (i := 0) (oi := { dst := some 68, op := Go.Op.move (Go.Operand.tmp 12), type := 25, pos := "law.go:95", after := #[], guard := none }) (v := ?_) rfl (by kernel_rfl) (by kernel_rfl) (by kernel_rfl) (fun _ _ _ h => h) (Or.inl ⟨by rfl, ?_⟩) hS ?_
    rotate_left
    · (intro w hSw; (try dsimp only at hSw); go_simp; (try with_reducible rfl))
    try simp only [Act.put, List.setIfInBounds_toArray, List.set_cons_zero, List.set_cons_succ]
    refine wpAnyH_take (i := 1) (oi := { dst := some 69, op := Go.Op.binOp Go.BinOp.neq 25 (Go.Operand.tmp 68) (Go.Operand.const (Go.Value.int Go.IntKind.i64 0)) 25, type := 4, pos := "law.go:95", after := #[{ on := 0, ground := Go.Ground.data }], guard := none }) (v := ?_) rfl (by kernel_rfl) (by kernel_rfl) (by kernel_rfl) (fun _ _ _ h => h) (Or.inl ⟨by rfl, ?_⟩) hS ?_
    rotate_left
    · (intro w hSw; (try dsimp only at hSw); go_simp; (try with_reducible rfl))
    try simp only [Act.put, List.setIfInBounds_toArray, List.set_cons_zero, List.set_cons_succ]
    refine wpAnyH_take (i := 2) (oi := { dst := some 70, op := Go.Op.move (Go.Operand.tmp 69), type := 4, pos := "law.go:95", after := #[{ on := 1, ground := Go.Ground.data }], guard := none }) (v := ?_) rfl (by kernel_rfl) (by kernel_rfl) (by kernel_rfl) (fun _ _ _ h => h) (Or.inl ⟨by rfl, ?_⟩) hS ?_
    rotate_left
    · (intro w hSw; (try dsimp only at hSw); go_simp; (try with_reducible rfl))
    try simp only [Act.put, List.setIfInBounds_toArray, List.set_cons_zero, List.set_cons_succ]
    refine wpAnyH_take (i := 3) (oi := { dst := some 71, op := Go.Op.load 39 (Go.Operand.tmp 11), type := 39, pos := "law.go:95", after := #[{ on := 2, ground := Go.Ground.guard }], guard := some (2, false) }) (v := ?_) rfl (by kernel_rfl) (by kernel_rfl) (by kernel_rfl) (fun _ _ _ h => h) (Or.inl ⟨by rfl, ?_⟩) hS ?_
    rotate_left
    · (intro w hSw; (try dsimp only at hSw); go_simp; (try with_reducible rfl))
    try simp only [Act.put, List.setIfInBounds_toArray, List.set_cons_zero, List.set_cons_succ]
    refine wpAnyH_take (i := 4) (oi := { dst := some 72, op := Go.Op.load 45 (Go.Operand.tmp 3), type := 45, pos := "law.go:95", after := #[{ on := 2, ground := Go.Ground.guard }], guard := some (2, false) }) (v := ?_) rfl (by kernel_rfl) (by kernel_rfl) (by kernel_rfl) (fun _ _ _ h => h) (Or.inl ⟨by rfl, ?_⟩) hS ?_
    rotate_left
    · (intro w hSw; (try dsimp only at hSw); go_simp; (try with_reducible rfl))
    try simp only [Act.put, List.setIfInBounds_toArray, List.set_cons_zero, List.set_cons_succ]
    refine wpAnyH_ready (rs := [5]) (by kernel_rfl) (by simp) ?_
    refine (AllReadyH.cons (o := { dst := some 73, op := Go.Op.call { callee := Go.Callee.value (Go.Operand.func 21), args := #[Go.Operand.tmp 72], argTypes := #[45] }, type := 39, pos := "law.go:95", after := #[{ on := 4, ground := Go.Ground.data }, { on := 2, ground := Go.Ground.chain }, { on := 2, ground := Go.Ground.guard }], guard := some (2, false) }) rfl (fun K hK => ?_) AllReadyH.nil)
    (go_simp; have H := Of_chunk (u := ua) (data := da) Ga.out (by omega) hF3.drew (ra.cons.cons.cons.cons.cons.cons.cons); refine H.mono ?_; clear H; rintro e w9 ⟨v, rfl, o9, q9, rfl, hF4⟩)
    refine hK.out _ _ (six' hF4 1 7 rfl rfl) (fun hS => ?_)
    clear hK K
    try simp only [Act.put, List.setIfInBounds_toArray, List.set_cons_zero, List.set_cons_succ]
    refine wpAnyH_ready (rs := [6]) (by kernel_rfl) (by simp) ?_
    refine (AllReadyH.cons (o := { dst := some 74, op := Go.Op.call { callee := Go.Callee.value (Go.Operand.func 20), args := #[Go.Operand.tmp 71, Go.Operand.tmp 73], argTypes := #[39, 39] }, type := 4, pos := "law.go:95", after := #[{ on := 3, ground := Go.Ground.data }, { on := 5, ground := Go.Ground.data }, { on := 5, ground := Go.Ground.chain }, { on := 2, ground := Go.Ground.guard }], guard := some (2, false) }) rfl (fun K hK => ?_) AllReadyH.nil)
    (go_simp; have H := Same_any (u1 := ua) (u2 := ua) (d1 := da) (d2 := da) Ga.out Ga.out (by omega) hF4 (fun W hW => reads_row hW 2 rfl) (fun W hW => reads_row hW 0 rfl); rw [SA.out] at H; refine H.mono ?_; clear H; rintro e wb ⟨v, rfl, rfl, hF5⟩)
    refine hK.out _ _ (six' hF5 1 7 rfl rfl) (fun hS => ?_)
    clear hK K
    try simp only [Act.put, List.setIfInBounds_toArray, List.set_cons_zero, List.set_cons_succ]
    refine wpAnyH_take (i := 7) (oi := { dst := some 75, op := Go.Op.unOp Go.UnOp.not 4 (Go.Operand.tmp 74), type := 4, pos := "law.go:95", after := #[{ on := 6, ground := Go.Ground.data }, { on := 2, ground := Go.Ground.guard }], guard := some (2, false) }) (v := ?_) rfl (by kernel_rfl) (by kernel_rfl) (by kernel_rfl) (fun _ _ _ h => h) (Or.inl ⟨by rfl, ?_⟩) hS ?_
    rotate_left
    · (intro w hSw; (try dsimp only at hSw); go_simp; (try with_reducible rfl))
    try simp only [Act.put, List.setIfInBounds_toArray, List.set_cons_zero, List.set_cons_succ]
    refine wpAnyH_take (i := 8) (oi := { dst := some 76, op := Go.Op.pick (Go.Operand.tmp 70) (Go.Operand.const (Go.Value.bool true)) (Go.Operand.tmp 75), type := 4, pos := "law.go:95", after := #[{ on := 2, ground := Go.Ground.data }, { on := 7, ground := Go.Ground.data }], guard := none }) (v := ?_) rfl (by kernel_rfl) (by kernel_rfl) (by kernel_rfl) (fun _ _ _ h => h) (Or.inl ⟨by rfl, ?_⟩) hS ?_
    rotate_left
    · (intro w hSw; (try dsimp only at hSw); go_simp; (try with_reducible rfl))
    try simp only [Act.put, List.setIfInBounds_toArray, List.set_cons_zero, List.set_cons_succ]
    refine wpAnyH_take (i := 9) (oi := { dst := some 77, op := Go.Op.move (Go.Operand.tmp 76), type := 4, pos := "law.go:95", after := #[{ on := 8, ground := Go.Ground.data }, { on := 6, ground := Go.Ground.chain }], guard := none }) (v := ?_) rfl (by kernel_rfl) (by kernel_rfl) (by kernel_rfl) (fun _ _ _ h => h) (Or.inl ⟨by rfl, ?_⟩) hS ?_
    rotate_left
    · (intro w hSw; (try dsimp only at hSw); go_simp; (try with_reducible rfl))
    try simp only [Act.put, List.setIfInBounds_toArray, List.set_cons_zero, List.set_cons_succ]
    refine wpAnyH_take (i := 10) (oi := { dst := some 78, op := Go.Op.move (Go.Operand.tmp 7), type := 42, pos := "law.go:95", after := #[{ on := 9, ground := Go.Ground.guard }], guard := some (9, false) }) (v := ?_) rfl (by kernel_rfl) (by kernel_rfl) (by kernel_rfl) (fun _ _ _ h => h) (Or.inl ⟨by rfl, ?_⟩) hS ?_
    rotate_left
    · (intro w hSw; (try dsimp only at hSw); go_simp; (try with_reducible rfl))
    try simp only [Act.put, List.setIfInBounds_toArray, List.set_cons_zero, List.set_cons_succ]
    refine wpAnyH_take (i := 11) (oi := { dst := some 79, op := Go.Op.call { callee := Go.Callee.builtin Go.Builtin.len, args := #[Go.Operand.tmp 78], argTypes := #[42] }, type := 3, pos := "law.go:95", after := #[{ on := 10, ground := Go.Ground.data }, { on := 9, ground := Go.Ground.guard }], guard := some (9, false) }) (v := ?_) rfl (by kernel_rfl) (by kernel_rfl) (by kernel_rfl) (fun _ _ _ h => h) (Or.inl ⟨by rfl, ?_⟩) hS ?_
    rotate_left
    · (intro w hSw; (try dsimp only at hSw); go_simp; (try with_reducible rfl))
    try simp only [Act.put, List.setIfInBounds_toArray, List.set_cons_zero, List.set_cons_succ]
    refine wpAnyH_take (i := 12) (oi := { dst := some 80, op := Go.Op.binOp Go.BinOp.gtr 3 (Go.Operand.tmp 79) (Go.Operand.const (Go.Value.int Go.IntKind.i64 340)) 3, type := 4, pos := "law.go:95", after := #[{ on := 11, ground := Go.Ground.data }, { on := 9, ground := Go.Ground.guard }], guard := some (9, false) }) (v := ?_) rfl (by kernel_rfl) (by kernel_rfl) (by kernel_rfl) (fun _ _ _ h => h) (Or.inl ⟨by rfl, ?_⟩) hS ?_
    rotate_left
    · (intro w hSw; (try dsimp only at hSw); go_simp; (try with_reducible rfl))
    try simp only [Act.put, List.setIfInBounds_toArray, List.set_cons_zero, List.set_cons_succ]
    refine wpAnyH_take (i := 13) (oi := { dst := some 81, op := Go.Op.pick (Go.Operand.tmp 77) (Go.Operand.const (Go.Value.bool true)) (Go.Operand.tmp 80), type := 4, pos := "law.go:95", after := #[{ on := 9, ground := Go.Ground.data }, { on := 12, ground := Go.Ground.data }], guard := none }) (v := ?_) rfl (by kernel_rfl) (by kernel_rfl) (by kernel_rfl) (fun _ _ _ h => h) (Or.inl ⟨by rfl, ?_⟩) hS ?_
    rotate_left
    · (intro w hSw; (try dsimp only at hSw); go_simp; (try with_reducible rfl))
    try simp only [Act.put, List.setIfInBounds_toArray, List.set_cons_zero, List.set_cons_succ]
    refine wpAnyH_done (by kernel_rfl) ?_ _
    all_goals
      clear hS
      go_wp2
      go_loopw [13] (fun i wr => ∃ k : Nat, k ≤ ka.length ∧ i = .int .i64 k ∧ Ent (rowK o9 q9 ka :: pt b11 (.cells #[.int .u8 ua.toNat, .string ⟨da.toArray⟩, .slice at1 ka.length ct1] 39) :: rowK at1 ct1 ka :: rowK ob pb kb :: rowB ax cx (putC ⟨ua, da, ka⟩) :: rowK oa pa ka :: pt b4 (.cells #[.int .u8 ub.toNat, .string ⟨db.toArray⟩, .slice ab kb.length cb] 45) :: pt b3 (.cells #[.int .u8 ua.toNat, .string ⟨da.toArray⟩, .slice aa ka.length ca] 45) :: l) wr) (fun i _ => ka.length - (intOf i).toNat)
      case atStart => exact ⟨0, Nat.zero_le _, rfl, hF5⟩
      case round =>
        clear hF5
        obtain ⟨k, hkl, rfl, hF5⟩ := hrel
        by_cases hlt : k < ka.length
        · obtain ⟨bk, ok, rfl, _⟩ := reads_form (reads_row hF5 2 rfl) (by omega) (by rw [kidCells_len Ga.out]; omega)
          have Hc34 := SL.hid (show ∀ (L : List HProp) (W : World), L[2]? = some (rowK (some ⟨bk, ok, none⟩) ct1 ka) → Ent L W → W.cell? ⟨bk, ok + k * 36 + 34, none⟩ = some (.int .u8 (ka[k]).height.toNat) from fun L W hL hW => by
            have h0 := kc34 (Ga.out _ (List.getElem_mem hlt))
            rw [List.getElem?_toArray] at h0
            have h1 := kid_cells Ga.out (reads_row hW 2 hL) hlt 34 _ h0
            rwa [Addr.add_lit] at h1)
          have hlow := Hab.out _ (List.getElem_mem hlt)
          have hH : hgt ⟨ua, da, ka⟩ = hgtB ua ka := rfl
          rw [hH] at hlow
          have hw34 : IntKind.i64.wrap ((ka[k]).height.toNat : Int) = (ka[k]).height.toNat := by have := (ka[k]).height.toNat_lt; rw [wrap_id (by omega)]
          generalize (ka[k]).height.toNat = g at *
          have hHt : ∀ {L : List HProp} {w : World}, Ent L w → Knows L (reads (.slice (some ⟨bk, ok, none⟩) ka.length ct1) ka.length (kidCells ka)) → Calls Try.prog 24 #[.agg #[.int .u8 ua.toNat, .string ⟨da.toArray⟩, .slice (some ⟨bk, ok, none⟩) ka.length ct1]] w (Ret fun v w' => v = .int .i64 (hgtB ua ka) ∧ Ent L w') := fun h k => Height_any (u := ua) (data := da) Ga.out (by omega) h k
          generalize hgtB ua ka = hh at *
          have hle : ¬ (hh ≤ g) := by omega
          have hle2 : decide ((hh : Int) ≤ (g : Int)) = false := decide_eq_false (by omega)
          go_wp2_with (first
            | go_skip
            | ((with_reducible (show Go.wpList _ _ _ (Go.Oper.mk _ (.load _ _) _ _ _ _ :: _) _ _)); refine wpl_load1 hF5 1 rfl rfl rfl rfl (by simp [go_sem]) rfl ?_))
          refine wp_region_held_drew (S := (fun w' => w'.cell? ⟨b11, 0, none⟩ = some (.int .u8 ua.toNat) ∧ w'.cell? ⟨b11, 1, none⟩ = some (.string ⟨da.toArray⟩) ∧ w'.cell? ⟨b11, 2, none⟩ = some (.slice (some ⟨bk, ok, none⟩) ka.length ct1) ∧ w'.cell? ⟨bk, ok + k * 36 + 34, none⟩ = some (.int .u8 g))) (by kernel_rfl) ⟨hF5.drew.cell 1 rfl 0, hF5.drew.cell 1 rfl 1, hF5.drew.cell 1 rfl 2, Hc34.out _ _ rfl hF5.drew⟩ (fun hS => ?_)
          refine wpAnyH_take (i := 0) (oi := { dst := some 89, op := Go.Op.load 39 (Go.Operand.tmp 11), type := 39, pos := "law.go:99", after := #[], guard := none }) (v := ?_) rfl (by kernel_rfl) (by kernel_rfl) (by kernel_rfl) (fun _ _ _ h => h) (Or.inl ⟨by rfl, ?_⟩) hS ?_
          rotate_left
          · (intro w hSw; (try dsimp only at hSw); go_simp; (try with_reducible rfl))
          try simp only [Act.put, List.setIfInBounds_toArray, List.set_cons_zero, List.set_cons_succ]
          refine wpAnyH_take (i := 2) (oi := { dst := some 91, op := Go.Op.fieldAddr 39 (Go.Operand.tmp 11) 2, type := 0, pos := "law.go:99", after := #[], guard := none }) (v := ?_) rfl (by kernel_rfl) (by kernel_rfl) (by kernel_rfl) (fun _ _ _ h => h) (Or.inl ⟨by rfl, ?_⟩) hS ?_
          rotate_left
          · (intro w hSw; (try dsimp only at hSw); go_simp; (try with_reducible rfl))
          try simp only [Act.put, List.setIfInBounds_toArray, List.set_cons_zero, List.set_cons_succ]
          refine wpAnyH_take (i := 3) (oi := { dst := some 92, op := Go.Op.load 37 (Go.Operand.tmp 91), type := 37, pos := "law.go:99", after := #[{ on := 2, ground := Go.Ground.data }], guard := none }) (v := ?_) rfl (by kernel_rfl) (by kernel_rfl) (by kernel_rfl) (fun _ _ _ h => h) (Or.inl ⟨by rfl, ?_⟩) hS ?_
          rotate_left
          · (intro w hSw; (try dsimp only at hSw); go_simp; (try with_reducible rfl))
          try simp only [Act.put, List.setIfInBounds_toArray, List.set_cons_zero, List.set_cons_succ]
          refine wpAnyH_take (i := 4) (oi := { dst := some 93, op := Go.Op.move (Go.Operand.tmp 13), type := 3, pos := "law.go:99", after := #[], guard := none }) (v := ?_) rfl (by kernel_rfl) (by kernel_rfl) (by kernel_rfl) (fun _ _ _ h => h) (Or.inl ⟨by rfl, ?_⟩) hS ?_
          rotate_left
          · (intro w hSw; (try dsimp only at hSw); go_simp; (try with_reducible rfl))
          try simp only [Act.put, List.setIfInBounds_toArray, List.set_cons_zero, List.set_cons_succ]
          refine wpAnyH_take (i := 5) (oi := { dst := some 94, op := Go.Op.indexAddr 37 (Go.Operand.tmp 92) (Go.Operand.tmp 93), type := 0, pos := "law.go:99", after := #[{ on := 3, ground := Go.Ground.data }, { on := 4, ground := Go.Ground.data }], guard := none }) (v := ?_) rfl (by kernel_rfl) (by kernel_rfl) (by kernel_rfl) (fun _ _ _ h => h) (Or.inl ⟨by rfl, ?_⟩) hS ?_
          rotate_left
          · (intro w hSw; (try dsimp only at hSw); go_simp; (try with_reducible rfl))
          try simp only [Act.put, List.setIfInBounds_toArray, List.set_cons_zero, List.set_cons_succ]
          refine wpAnyH_take (i := 6) (oi := { dst := some 95, op := Go.Op.fieldAddr 59 (Go.Operand.tmp 94) 3, type := 0, pos := "law.go:99", after := #[{ on := 5, ground := Go.Ground.data }], guard := none }) (v := ?_) rfl (by kernel_rfl) (by kernel_rfl) (by kernel_rfl) (fun _ _ _ h => h) (Or.inl ⟨by rfl, ?_⟩) hS ?_
          rotate_left
          · (intro w hSw; (try dsimp only at hSw); go_simp; (try with_reducible rfl))
          try simp only [Act.put, List.setIfInBounds_toArray, List.set_cons_zero, List.set_cons_succ]
          refine wpAnyH_take (i := 7) (oi := { dst := some 96, op := Go.Op.load 5 (Go.Operand.tmp 95), type := 5, pos := "law.go:99", after := #[{ on := 6, ground := Go.Ground.data }], guard := none }) (v := ?_) rfl (by kernel_rfl) (by kernel_rfl) (by kernel_rfl) (fun _ _ _ h => h) (Or.inl ⟨by rfl, ?_⟩) hS ?_
          rotate_left
          · (intro w hSw; (try dsimp only at hSw); go_simp; (try with_reducible rfl))
          try simp only [Act.put, List.setIfInBounds_toArray, List.set_cons_zero, List.set_cons_succ]
          refine wpAnyH_take (i := 8) (oi := { dst := some 97, op := Go.Op.convert 5 3 (Go.Operand.tmp 96), type := 3, pos := "law.go:99", after := #[{ on := 7, ground := Go.Ground.data }], guard := none }) (v := ?_) rfl (by kernel_rfl) (by kernel_rfl) (by kernel_rfl) (fun _ _ _ h => h) (Or.inl ⟨by rfl, ?_⟩) hS ?_
          rotate_left
          · (intro w hSw; (try dsimp only at hSw); go_simp; (try with_reducible rfl))
          try simp only [Act.put, List.setIfInBounds_toArray, List.set_cons_zero, List.set_cons_succ]
          refine wpAnyH_ready (rs := [1]) (by kernel_rfl) (by simp) ?_
          refine (AllReadyH.cons (o := { dst := some 90, op := Go.Op.call { callee := Go.Callee.value (Go.Operand.func 24), args := #[Go.Operand.tmp 89], argTypes := #[39] }, type := 3, pos := "law.go:99", after := #[{ on := 0, ground := Go.Ground.data }], guard := none }) rfl (fun K hK => ?_) AllReadyH.nil)
          (go_simp; refine (hHt hF5.drew (fun W hW => reads_row hW 2 rfl)).mono ?_; rintro e w9 ⟨v, rfl, rfl, hF6⟩)
          refine hK.out _ _ ⟨hF6.cell 1 rfl 0, hF6.cell 1 rfl 1, hF6.cell 1 rfl 2, Hc34.out _ _ rfl hF6⟩ (fun hS => ?_)
          clear hK K
          try simp only [Act.put, List.setIfInBounds_toArray, List.set_cons_zero, List.set_cons_succ]
          refine wpAnyH_take (i := 9) (oi := { dst := some 98, op := Go.Op.binOp Go.BinOp.leq 3 (Go.Operand.tmp 90) (Go.Operand.tmp 97) 3, type := 4, pos := "law.go:99", after := #[{ on := 1, ground := Go.Ground.data }, { on := 8, ground := Go.Ground.data }], guard := none }) (v := ?_) rfl (by kernel_rfl) (by kernel_rfl) (by kernel_rfl) (fun _ _ _ h => h) (Or.inl ⟨by rfl, ?_⟩) hS ?_
          rotate_left
          · (intro w hSw; (try dsimp only at hSw); go_simp; (try with_reducible rfl))
          try simp only [Act.put, List.setIfInBounds_toArray, List.set_cons_zero, List.set_cons_succ]
          refine wpAnyH_done (by kernel_rfl) ?_ _
          all_goals
            go_wp2
            go_roundw
            case rel => exact ⟨k + 1, hlt, by simp, hF6⟩
            case measure => simp [intOf]; omega
        · have hkk : k = ka.length := by omega
          subst hkk
          go_wp2_with (first
            | go_skip
            | ((with_reducible (show Go.wpList _ _ _ (Go.Oper.mk _ (.load 37 _) _ _ _ _ :: _) _ _)); refine wpl_load1 hF5 1 rfl rfl rfl rfl (by simp [go_sem]) rfl ?_)
            | (go_at_call 18; have H := cTake_any (bs := bs) hbs hF5 (rs.cons.cons.cons.cons.cons.cons.cons.cons); rw [K1.out, K2.out] at H; refine H.mono ?_; clear H hF5; rintro e w2 ⟨v, rfl, as1, cs1, rfl, hG1⟩)
            | ((with_reducible (show Go.wpList _ _ _ (Go.Oper.mk _ (.alloc _) _ _ _ _ :: _) _ _)); refine wpl_alloc hG1 rfl rfl (by simp [go_sem]; rfl) ?_; clear hG1; intro b14 w hG2; simp only [Act.eval, Act.put, List.setIfInBounds_toArray, List.set_cons_zero, List.set_cons_succ, getD_lit, List.getD_cons_succ, List.getD_cons_zero, Value.cells] at hG2)
            | ((with_reducible (show Go.wpList _ _ _ (Go.Oper.mk _ (.store _ (.tmp 14) _) _ _ _ _ :: _) _ _)); refine wpl_storeW hG2 0 rfl rfl rfl (xs := [.int .u8 cs.kind.toNat, .string ⟨cs.data.toArray⟩, .slice as1 cs.kids.length cs1]) rfl rfl Try.sizeOf39 rfl (by simp [Value.oneCell']) rfl ?_; clear hG2; intro w hG3; simp only [List.set_cons_zero, List.set_cons_succ] at hG3)
            | ((with_reducible (show Go.wpList _ _ _ (Go.Oper.mk _ (.load 39 _) _ _ _ _ :: _) _ _)); refine wpl_loadW hG3 0 rfl rfl rfl rfl Try.isAgg39 Try.sizeOf39 (xs := [.int .u8 cs.kind.toNat, .string ⟨cs.data.toArray⟩, .slice as1 cs.kids.length cs1]) rfl ?_)
            | (go_at_call 23; have H := cPut_yes (u := cs.kind) (data := cs.data) (ks := cs.kids) CG.out CM.out hG3 (fun W hW => reads_row hW 1 rfl); rw [CP.out] at H; refine H.mono ?_; clear H hG3; rintro e w2 ⟨v, rfl, a16, c16, rfl, hG4⟩)
            | ((with_reducible (show Go.wpList _ _ _ (Go.Oper.mk _ (.convert _ _ (.tmp 130)) _ _ _ _ :: _) _ _)); refine wpl_bytesStr (bs := bs) rfl rfl rfl Try.underlying42 Try.underlying5 Try.underlying9 (reads_row hG4 0 rfl) rfl ?_)
            | ((with_reducible (show Go.wpList _ _ _ (Go.Oper.mk _ (.convert _ _ (.tmp 132)) _ _ _ _ :: _) _ _)); refine wpl_bytesStr (bs := bs) rfl rfl rfl Try.underlying42 Try.underlying5 Try.underlying9 (rs _ hG4.tail.tail.tail.tail.tail.tail.tail.tail.tail.tail.tail) rfl ?_)
            | (go_at_call 17; have H := wakes12_any hG4; refine H.mono ?_; clear H hG4; rintro e w2 ⟨v, rfl, rfl, hZ⟩))
          go_ret
          exact ⟨_, rfl, rfl, hZ.tail.tail.tail.tail.tail.tail.tail.tail.tail.tail.tail⟩
end Go.Proofs.Ytohdljcpaogokaa
