/-
  The stage's theorem of the chunks, where the first chunk may not be and the second may be.
-/
import Derived.Test.YtohdljcpaogokaaCkk
namespace Go.Proofs.Ytohdljcpaogokaa
open Go.RowKit Go.SL

set_option maxRecDepth 100000 in
set_option maxHeartbeats 4000000 in
theorem back_010 {ua ub : UInt8} {da db bs : List UInt8} {ka kb : List Kid} {aa ab ai : Option Addr} {ca cb ci : Nat} (ga : ∀ k ∈ ka, k.good) (gb : ∀ k ∈ kb, k.good) {l : List HProp} {w : World} (hE : Ent l w)
    (ra : Knows l (reads (.slice aa ka.length ca) ka.length (kidCells ka))) (rb : Knows l (reads (.slice ab kb.length cb) kb.length (kidCells kb))) (rs : Knows l (reads (.slice ai bs.length ci) bs.length (bvals bs))) (GA : RowKit.Hid (greatC ⟨ua, da, ka⟩ = false)) (GB : RowKit.Hid (greatC ⟨ub, db, kb⟩ = false)) (h6 : decide ((600 : Int) < (bs.length : Int)) = false) (MA : RowKit.Hid (mayC ⟨ua, da, ka⟩ = false)) (MB : RowKit.Hid (mayC ⟨ub, db, kb⟩ = true)) (TS : RowKit.Hid (takeC bs = none)) :
    Calls Try.prog 6 #[.agg #[.int .u8 ua.toNat, .string ⟨da.toArray⟩, .slice aa ka.length ca], .agg #[.int .u8 ub.toNat, .string ⟨db.toArray⟩, .slice ab kb.length cb], .slice ai bs.length ci] w (Ret fun v w' => v = .bool true ∧ Ent l w') := by
  have Ga := SL.hid ga
  have Gb := SL.hid gb
  clear ga gb
  have hbs : bs.length ≤ 1000000 := by have := of_decide_eq_false h6; omega
  have nA := (greatC_false GA.out).1
  have nB := (greatC_false GB.out).1
  simp only at nA nB
  have K1 := SL.hid (show resC bs = ⟨0, [], []⟩ by unfold resC; rw [TS.out]; rfl)
  have K2 := SL.hid (show errC bs = 3 by unfold errC; rw [TS.out]; rfl)
  go_enter Try.func6, Try.ntmps6
  go_wp2_with (first
    | go_skip
    | ((with_reducible (show Go.wpList _ _ _ (Go.Oper.mk _ (.box _ (.tmp 0)) _ _ _ _ :: _) _ _)); refine wpl_box hE rfl rfl rfl ?_; clear hE; intro b3 w hE1; simp only [Act.eval, Act.put, List.setIfInBounds_toArray, List.set_cons_zero, List.set_cons_succ, getD_lit, List.getD_cons_succ, List.getD_cons_zero, Value.cells] at hE1)
    | ((with_reducible (show Go.wpList _ _ _ (Go.Oper.mk _ (.box _ (.tmp 1)) _ _ _ _ :: _) _ _)); refine wpl_box hE1 rfl rfl rfl ?_; clear hE1; intro b4 w hE2; simp only [Act.eval, Act.put, List.setIfInBounds_toArray, List.set_cons_zero, List.set_cons_succ, getD_lit, List.getD_cons_succ, List.getD_cons_zero, Value.cells] at hE2)
    | ((with_reducible (show Go.wpList _ _ _ (Go.Oper.mk _ (.load _ (.tmp 3)) _ _ _ _ :: _) _ _)); refine wpl_loadW hE2 1 rfl rfl rfl rfl Try.isAgg45 Try.sizeOf45 (xs := [.int .u8 ua.toNat, .string ⟨da.toArray⟩, .slice aa ka.length ca]) rfl ?_)
    | (go_at_call 22; have H := great_any (u := ua) (data := da) Ga.out hE2 ra.cons.cons; rw [GA.out] at H; refine H.mono ?_; clear H hE2; rintro e w2 ⟨v, rfl, rfl, hE3⟩)
    | ((with_reducible (show Go.wpList _ _ _ (Go.Oper.mk _ (.load _ (.tmp 4)) _ _ _ _ :: _) _ _)); refine wpl_loadW hE3 0 rfl rfl rfl rfl Try.isAgg45 Try.sizeOf45 (xs := [.int .u8 ub.toNat, .string ⟨db.toArray⟩, .slice ab kb.length cb]) rfl ?_)
    | (go_at_call 22; have H := great_any (u := ub) (data := db) Gb.out hE3 rb.cons.cons; rw [GB.out] at H; refine H.mono ?_; clear H hE3; rintro e w2 ⟨v, rfl, rfl, hE4⟩)
    | ((with_reducible (show Go.wpList _ _ _ (Go.Oper.mk _ (.load _ (.tmp 3)) _ _ _ _ :: _) _ _)); refine wpl_loadW hE4 1 rfl rfl rfl rfl Try.isAgg45 Try.sizeOf45 (xs := [.int .u8 ua.toNat, .string ⟨da.toArray⟩, .slice aa ka.length ca]) rfl ?_)
    | (go_at_call 21; have H := Of_chunk (u := ua) (data := da) Ga.out (by omega) hE4 ra.cons.cons; refine H.mono ?_; clear H hE4; rintro e w2 ⟨v, rfl, oa, pa, rfl, hE5⟩)
    | (go_at_call 23; have H := cPut_no (u := ua) (data := da) Ga.out (by omega) MA.out hE5 (fun W hW => reads_row hW 0 rfl); refine H.mono ?_; clear H hE5; rintro e w2 ⟨v, rfl, rfl, hE6⟩)
    | ((with_reducible (show Go.wpList _ _ _ (Go.Oper.mk _ (.load _ (.tmp 4)) _ _ _ _ :: _) _ _)); refine wpl_loadW hE6 1 rfl rfl rfl rfl Try.isAgg45 Try.sizeOf45 (xs := [.int .u8 ub.toNat, .string ⟨db.toArray⟩, .slice ab kb.length cb]) rfl ?_)
    | (go_at_call 21; have H := Of_chunk (u := ub) (data := db) Gb.out (by omega) hE6 rb.cons.cons.cons; refine H.mono ?_; clear H hE6; rintro e w2 ⟨v, rfl, ob, pb, rfl, hE7⟩)
    | (go_at_call 23; have H := cPut_yes (u := ub) (data := db) Gb.out MB.out hE7 (fun W hW => reads_row hW 0 rfl); refine H.mono ?_; clear H hE7; rintro e w2 ⟨v, rfl, ay, cy, rfl, hE8⟩))
  refine wp_region_held_drew (S := (fun _ => True)) (by kernel_rfl) trivial (fun hS => ?_)
  refine wpAnyH_take (i := 0) (oi := { dst := some 42, op := Go.Op.move (Go.Operand.tmp 8), type := 25, pos := "law.go:90", after := #[], guard := none }) (v := ?_) rfl (by kernel_rfl) (by kernel_rfl) (by kernel_rfl) (fun _ _ _ h => h) (Or.inl ⟨by rfl, ?_⟩) hS ?_
  rotate_left
  · (intro w hSw; (try dsimp only at hSw); go_simp; (try with_reducible rfl))
  try simp only [Act.put, List.setIfInBounds_toArray, List.set_cons_zero, List.set_cons_succ]
  refine wpAnyH_take (i := 1) (oi := { dst := some 43, op := Go.Op.binOp Go.BinOp.eql 25 (Go.Operand.tmp 42) (Go.Operand.const (Go.Value.int Go.IntKind.i64 0)) 25, type := 4, pos := "law.go:90", after := #[{ on := 0, ground := Go.Ground.data }], guard := none }) (v := ?_) rfl (by kernel_rfl) (by kernel_rfl) (by kernel_rfl) (fun _ _ _ h => h) (Or.inl ⟨by rfl, ?_⟩) hS ?_
  rotate_left
  · (intro w hSw; (try dsimp only at hSw); go_simp; (try with_reducible rfl))
  try simp only [Act.put, List.setIfInBounds_toArray, List.set_cons_zero, List.set_cons_succ]
  refine wpAnyH_take (i := 2) (oi := { dst := some 44, op := Go.Op.move (Go.Operand.tmp 43), type := 4, pos := "law.go:90", after := #[{ on := 1, ground := Go.Ground.data }], guard := none }) (v := ?_) rfl (by kernel_rfl) (by kernel_rfl) (by kernel_rfl) (fun _ _ _ h => h) (Or.inl ⟨by rfl, ?_⟩) hS ?_
  rotate_left
  · (intro w hSw; (try dsimp only at hSw); go_simp; (try with_reducible rfl))
  try simp only [Act.put, List.setIfInBounds_toArray, List.set_cons_zero, List.set_cons_succ]
  refine wpAnyH_take (i := 3) (oi := { dst := some 45, op := Go.Op.move (Go.Operand.tmp 10), type := 25, pos := "law.go:90", after := #[{ on := 2, ground := Go.Ground.guard }], guard := some (2, true) }) (v := undef) rfl (by kernel_rfl) (by kernel_rfl) (by kernel_rfl) (fun _ _ _ h => h) (Or.inr ⟨by rfl, rfl⟩) hS ?_
  try simp only [Act.put, List.setIfInBounds_toArray, List.set_cons_zero, List.set_cons_succ]
  refine wpAnyH_take (i := 4) (oi := { dst := some 46, op := Go.Op.binOp Go.BinOp.eql 25 (Go.Operand.tmp 45) (Go.Operand.const (Go.Value.int Go.IntKind.i64 0)) 25, type := 4, pos := "law.go:90", after := #[{ on := 3, ground := Go.Ground.data }, { on := 2, ground := Go.Ground.guard }], guard := some (2, true) }) (v := undef) rfl (by kernel_rfl) (by kernel_rfl) (by kernel_rfl) (fun _ _ _ h => h) (Or.inr ⟨by rfl, rfl⟩) hS ?_
  try simp only [Act.put, List.setIfInBounds_toArray, List.set_cons_zero, List.set_cons_succ]
  refine wpAnyH_take (i := 5) (oi := { dst := some 47, op := Go.Op.pick (Go.Operand.tmp 44) (Go.Operand.tmp 46) (Go.Operand.const (Go.Value.bool false)), type := 4, pos := "law.go:90", after := #[{ on := 2, ground := Go.Ground.data }, { on := 4, ground := Go.Ground.data }], guard := none }) (v := ?_) rfl (by kernel_rfl) (by kernel_rfl) (by kernel_rfl) (fun _ _ _ h => h) (Or.inl ⟨by rfl, ?_⟩) hS ?_
  rotate_left
  · (intro w hSw; (try dsimp only at hSw); go_simp; (try with_reducible rfl))
  try simp only [Act.put, List.setIfInBounds_toArray, List.set_cons_zero, List.set_cons_succ]
  refine wpAnyH_take (i := 6) (oi := { dst := some 48, op := Go.Op.move (Go.Operand.tmp 47), type := 4, pos := "law.go:90", after := #[{ on := 5, ground := Go.Ground.data }, { on := 2, ground := Go.Ground.chain }], guard := none }) (v := ?_) rfl (by kernel_rfl) (by kernel_rfl) (by kernel_rfl) (fun _ _ _ h => h) (Or.inl ⟨by rfl, ?_⟩) hS ?_
  rotate_left
  · (intro w hSw; (try dsimp only at hSw); go_simp; (try with_reducible rfl))
  try simp only [Act.put, List.setIfInBounds_toArray, List.set_cons_zero, List.set_cons_succ]
  refine wpAnyH_take (i := 7) (oi := { dst := some 49, op := Go.Op.move (Go.Operand.tmp 7), type := 42, pos := "law.go:90", after := #[{ on := 6, ground := Go.Ground.guard }], guard := some (6, true) }) (v := undef) rfl (by kernel_rfl) (by kernel_rfl) (by kernel_rfl) (fun _ _ _ h => h) (Or.inr ⟨by rfl, rfl⟩) hS ?_
  try simp only [Act.put, List.setIfInBounds_toArray, List.set_cons_zero, List.set_cons_succ]
  refine wpAnyH_take (i := 8) (oi := { dst := some 50, op := Go.Op.convert 42 9 (Go.Operand.tmp 49), type := 9, pos := "law.go:90", after := #[{ on := 7, ground := Go.Ground.data }, { on := 6, ground := Go.Ground.guard }], guard := some (6, true) }) (v := undef) rfl (by kernel_rfl) (by kernel_rfl) (by kernel_rfl) (fun _ _ _ h => h) (Or.inr ⟨by rfl, rfl⟩) hS ?_
  try simp only [Act.put, List.setIfInBounds_toArray, List.set_cons_zero, List.set_cons_succ]
  refine wpAnyH_take (i := 9) (oi := { dst := some 51, op := Go.Op.move (Go.Operand.tmp 9), type := 42, pos := "law.go:90", after := #[{ on := 6, ground := Go.Ground.guard }], guard := some (6, true) }) (v := undef) rfl (by kernel_rfl) (by kernel_rfl) (by kernel_rfl) (fun _ _ _ h => h) (Or.inr ⟨by rfl, rfl⟩) hS ?_
  try simp only [Act.put, List.setIfInBounds_toArray, List.set_cons_zero, List.set_cons_succ]
  refine wpAnyH_take (i := 10) (oi := { dst := some 52, op := Go.Op.convert 42 9 (Go.Operand.tmp 51), type := 9, pos := "law.go:90", after := #[{ on := 9, ground := Go.Ground.data }, { on := 6, ground := Go.Ground.guard }], guard := some (6, true) }) (v := undef) rfl (by kernel_rfl) (by kernel_rfl) (by kernel_rfl) (fun _ _ _ h => h) (Or.inr ⟨by rfl, rfl⟩) hS ?_
  try simp only [Act.put, List.setIfInBounds_toArray, List.set_cons_zero, List.set_cons_succ]
  refine wpAnyH_take (i := 11) (oi := { dst := some 53, op := Go.Op.binOp Go.BinOp.eql 9 (Go.Operand.tmp 50) (Go.Operand.tmp 52) 9, type := 4, pos := "law.go:90", after := #[{ on := 8, ground := Go.Ground.data }, { on := 10, ground := Go.Ground.data }, { on := 6, ground := Go.Ground.guard }], guard := some (6, true) }) (v := undef) rfl (by kernel_rfl) (by kernel_rfl) (by kernel_rfl) (fun _ _ _ h => h) (Or.inr ⟨by rfl, rfl⟩) hS ?_
  try simp only [Act.put, List.setIfInBounds_toArray, List.set_cons_zero, List.set_cons_succ]
  refine wpAnyH_take (i := 12) (oi := { dst := some 54, op := Go.Op.load 45 (Go.Operand.tmp 3), type := 45, pos := "law.go:90", after := #[{ on := 6, ground := Go.Ground.guard }], guard := some (6, true) }) (v := undef) rfl (by kernel_rfl) (by kernel_rfl) (by kernel_rfl) (fun _ _ _ h => h) (Or.inr ⟨by rfl, rfl⟩) hS ?_
  try simp only [Act.put, List.setIfInBounds_toArray, List.set_cons_zero, List.set_cons_succ]
  refine wpAnyH_take (i := 13) (oi := { dst := some 55, op := Go.Op.call { callee := Go.Callee.value (Go.Operand.func 21), args := #[Go.Operand.tmp 54], argTypes := #[45] }, type := 39, pos := "law.go:90", after := #[{ on := 12, ground := Go.Ground.data }, { on := 6, ground := Go.Ground.chain }, { on := 6, ground := Go.Ground.guard }], guard := some (6, true) }) (v := undef) rfl (by kernel_rfl) (by kernel_rfl) (by kernel_rfl) (fun _ _ _ h => h) (Or.inr ⟨by rfl, rfl⟩) hS ?_
  try simp only [Act.put, List.setIfInBounds_toArray, List.set_cons_zero, List.set_cons_succ]
  refine wpAnyH_take (i := 14) (oi := { dst := some 56, op := Go.Op.load 45 (Go.Operand.tmp 4), type := 45, pos := "law.go:90", after := #[{ on := 6, ground := Go.Ground.guard }], guard := some (6, true) }) (v := undef) rfl (by kernel_rfl) (by kernel_rfl) (by kernel_rfl) (fun _ _ _ h => h) (Or.inr ⟨by rfl, rfl⟩) hS ?_
  try simp only [Act.put, List.setIfInBounds_toArray, List.set_cons_zero, List.set_cons_succ]
  refine wpAnyH_take (i := 15) (oi := { dst := some 57, op := Go.Op.call { callee := Go.Callee.value (Go.Operand.func 21), args := #[Go.Operand.tmp 56], argTypes := #[45] }, type := 39, pos := "law.go:90", after := #[{ on := 14, ground := Go.Ground.data }, { on := 13, ground := Go.Ground.chain }, { on := 6, ground := Go.Ground.guard }], guard := some (6, true) }) (v := undef) rfl (by kernel_rfl) (by kernel_rfl) (by kernel_rfl) (fun _ _ _ h => h) (Or.inr ⟨by rfl, rfl⟩) hS ?_
  try simp only [Act.put, List.setIfInBounds_toArray, List.set_cons_zero, List.set_cons_succ]
  refine wpAnyH_take (i := 16) (oi := { dst := some 58, op := Go.Op.call { callee := Go.Callee.value (Go.Operand.func 20), args := #[Go.Operand.tmp 55, Go.Operand.tmp 57], argTypes := #[39, 39] }, type := 4, pos := "law.go:90", after := #[{ on := 13, ground := Go.Ground.data }, { on := 15, ground := Go.Ground.data }, { on := 15, ground := Go.Ground.chain }, { on := 6, ground := Go.Ground.guard }], guard := some (6, true) }) (v := undef) rfl (by kernel_rfl) (by kernel_rfl) (by kernel_rfl) (fun _ _ _ h => h) (Or.inr ⟨by rfl, rfl⟩) hS ?_
  try simp only [Act.put, List.setIfInBounds_toArray, List.set_cons_zero, List.set_cons_succ]
  refine wpAnyH_take (i := 17) (oi := { dst := some 59, op := Go.Op.binOp Go.BinOp.neq 4 (Go.Operand.tmp 53) (Go.Operand.tmp 58) 4, type := 4, pos := "law.go:90", after := #[{ on := 11, ground := Go.Ground.data }, { on := 16, ground := Go.Ground.data }, { on := 6, ground := Go.Ground.guard }], guard := some (6, true) }) (v := undef) rfl (by kernel_rfl) (by kernel_rfl) (by kernel_rfl) (fun _ _ _ h => h) (Or.inr ⟨by rfl, rfl⟩) hS ?_
  try simp only [Act.put, List.setIfInBounds_toArray, List.set_cons_zero, List.set_cons_succ]
  refine wpAnyH_take (i := 18) (oi := { dst := some 60, op := Go.Op.pick (Go.Operand.tmp 48) (Go.Operand.tmp 59) (Go.Operand.const (Go.Value.bool false)), type := 4, pos := "law.go:90", after := #[{ on := 6, ground := Go.Ground.data }, { on := 17, ground := Go.Ground.data }], guard := none }) (v := ?_) rfl (by kernel_rfl) (by kernel_rfl) (by kernel_rfl) (fun _ _ _ h => h) (Or.inl ⟨by rfl, ?_⟩) hS ?_
  rotate_left
  · (intro w hSw; (try dsimp only at hSw); go_simp; (try with_reducible rfl))
  try simp only [Act.put, List.setIfInBounds_toArray, List.set_cons_zero, List.set_cons_succ]
  refine wpAnyH_done (by kernel_rfl) ?_ _
  all_goals
    replace hE8 := hE8.drew
    go_wp2_with (first
      | go_skip
      | (go_at_call 18; have H := cTake_any (bs := bs) hbs hE8 (rs.cons.cons.cons.cons.cons); rw [K1.out, K2.out] at H; refine H.mono ?_; clear H hE8; rintro e w2 ⟨v, rfl, as1, cs1, rfl, hG1⟩)
      | ((with_reducible (show Go.wpList _ _ _ (Go.Oper.mk _ (.alloc _) _ _ _ _ :: _) _ _)); refine wpl_alloc hG1 rfl rfl (by simp [go_sem]; rfl) ?_; clear hG1; intro b14 w hG2; simp only [Act.eval, Act.put, List.setIfInBounds_toArray, List.set_cons_zero, List.set_cons_succ, getD_lit, List.getD_cons_succ, List.getD_cons_zero, Value.cells] at hG2)
      | ((with_reducible (show Go.wpList _ _ _ (Go.Oper.mk _ (.store _ (.tmp 14) _) _ _ _ _ :: _) _ _)); refine wpl_storeW hG2 0 rfl rfl rfl (xs := [.int .u8 0, .string ⟨#[]⟩, .slice as1 0 cs1]) rfl rfl Try.sizeOf39 rfl (by simp [Value.oneCell']) rfl ?_; clear hG2; intro w hG3; simp only [List.set_cons_zero, List.set_cons_succ] at hG3)
      | ((with_reducible (show Go.wpList _ _ _ (Go.Oper.mk _ (.load _ _) _ _ _ _ :: _) _ _)); refine wpl_load1 hG3 0 rfl rfl rfl rfl (by simp [go_sem]) rfl ?_)
      | (go_at_call 17; have H := wakes12_any hG3; refine H.mono ?_; clear H hG3; rintro e w2 ⟨v, rfl, rfl, hZ⟩))
    go_ret
    exact ⟨_, rfl, rfl, hZ.tail.tail.tail.tail.tail.tail.tail⟩


set_option maxRecDepth 100000 in
set_option maxHeartbeats 4000000 in
theorem back_011 {ua ub : UInt8} {da db bs : List UInt8} {ka kb : List Kid} {aa ab ai : Option Addr} {ca cb ci : Nat} (ga : ∀ k ∈ ka, k.good) (gb : ∀ k ∈ kb, k.good) {l : List HProp} {w : World} (hE : Ent l w)
    (ra : Knows l (reads (.slice aa ka.length ca) ka.length (kidCells ka))) (rb : Knows l (reads (.slice ab kb.length cb) kb.length (kidCells kb))) (rs : Knows l (reads (.slice ai bs.length ci) bs.length (bvals bs))) {cs : Chunk} (GA : RowKit.Hid (greatC ⟨ua, da, ka⟩ = false)) (GB : RowKit.Hid (greatC ⟨ub, db, kb⟩ = false)) (h6 : decide ((600 : Int) < (bs.length : Int)) = false) (MA : RowKit.Hid (mayC ⟨ua, da, ka⟩ = false)) (MB : RowKit.Hid (mayC ⟨ub, db, kb⟩ = true)) (TS : RowKit.Hid (takeC bs = some cs)) :
    Calls Try.prog 6 #[.agg #[.int .u8 ua.toNat, .string ⟨da.toArray⟩, .slice aa ka.length ca], .agg #[.int .u8 ub.toNat, .string ⟨db.toArray⟩, .slice ab kb.length cb], .slice ai bs.length ci] w (Ret fun v w' => v = .bool true ∧ Ent l w') := by
  have Ga := SL.hid ga
  have Gb := SL.hid gb
  clear ga gb
  have hbs : bs.length ≤ 1000000 := by have := of_decide_eq_false h6; omega
  have nA := (greatC_false GA.out).1
  have nB := (greatC_false GB.out).1
  simp only at nA nB
  obtain ⟨cm, cp, ce, _⟩ := takeC_some TS.out
  have K1 := SL.hid (show resC bs = cs by unfold resC; rw [TS.out]; rfl)
  have K2 := SL.hid (show errC bs = 0 by unfold errC; rw [TS.out]; rfl)
  have CG := SL.hid (show ∀ k ∈ cs.kids, k.good by rw [ce]; exact pchunk_good bs)
  have CM := SL.hid (show mayC ⟨cs.kind, cs.data, cs.kids⟩ = true from cm)
  have CP := SL.hid (show putC ⟨cs.kind, cs.data, cs.kids⟩ = bs from cp)
  clear cm cp ce
  go_enter Try.func6, Try.ntmps6
  go_wp2_with (first
    | go_skip
    | ((with_reducible (show Go.wpList _ _ _ (Go.Oper.mk _ (.box _ (.tmp 0)) _ _ _ _ :: _) _ _)); refine wpl_box hE rfl rfl rfl ?_; clear hE; intro b3 w hE1; simp only [Act.eval, Act.put, List.setIfInBounds_toArray, List.set_cons_zero, List.set_cons_succ, getD_lit, List.getD_cons_succ, List.getD_cons_zero, Value.cells] at hE1)
    | ((with_reducible (show Go.wpList _ _ _ (Go.Oper.mk _ (.box _ (.tmp 1)) _ _ _ _ :: _) _ _)); refine wpl_box hE1 rfl rfl rfl ?_; clear hE1; intro b4 w hE2; simp only [Act.eval, Act.put, List.setIfInBounds_toArray, List.set_cons_zero, List.set_cons_succ, getD_lit, List.getD_cons_succ, List.getD_cons_zero, Value.cells] at hE2)
    | ((with_reducible (show Go.wpList _ _ _ (Go.Oper.mk _ (.load _ (.tmp 3)) _ _ _ _ :: _) _ _)); refine wpl_loadW hE2 1 rfl rfl rfl rfl Try.isAgg45 Try.sizeOf45 (xs := [.int .u8 ua.toNat, .string ⟨da.toArray⟩, .slice aa ka.length ca]) rfl ?_)
    | (go_at_call 22; have H := great_any (u := ua) (data := da) Ga.out hE2 ra.cons.cons; rw [GA.out] at H; refine H.mono ?_; clear H hE2; rintro e w2 ⟨v, rfl, rfl, hE3⟩)
    | ((with_reducible (show Go.wpList _ _ _ (Go.Oper.mk _ (.load _ (.tmp 4)) _ _ _ _ :: _) _ _)); refine wpl_loadW hE3 0 rfl rfl rfl rfl Try.isAgg45 Try.sizeOf45 (xs := [.int .u8 ub.toNat, .string ⟨db.toArray⟩, .slice ab kb.length cb]) rfl ?_)
    | (go_at_call 22; have H := great_any (u := ub) (data := db) Gb.out hE3 rb.cons.cons; rw [GB.out] at H; refine H.mono ?_; clear H hE3; rintro e w2 ⟨v, rfl, rfl, hE4⟩)
    | ((with_reducible (show Go.wpList _ _ _ (Go.Oper.mk _ (.load _ (.tmp 3)) _ _ _ _ :: _) _ _)); refine wpl_loadW hE4 1 rfl rfl rfl rfl Try.isAgg45 Try.sizeOf45 (xs := [.int .u8 ua.toNat, .string ⟨da.toArray⟩, .slice aa ka.length ca]) rfl ?_)
    | (go_at_call 21; have H := Of_chunk (u := ua) (data := da) Ga.out (by omega) hE4 ra.cons.cons; refine H.mono ?_; clear H hE4; rintro e w2 ⟨v, rfl, oa, pa, rfl, hE5⟩)
    | (go_at_call 23; have H := cPut_no (u := ua) (data := da) Ga.out (by omega) MA.out hE5 (fun W hW => reads_row hW 0 rfl); refine H.mono ?_; clear H hE5; rintro e w2 ⟨v, rfl, rfl, hE6⟩)
    | ((with_reducible (show Go.wpList _ _ _ (Go.Oper.mk _ (.load _ (.tmp 4)) _ _ _ _ :: _) _ _)); refine wpl_loadW hE6 1 rfl rfl rfl rfl Try.isAgg45 Try.sizeOf45 (xs := [.int .u8 ub.toNat, .string ⟨db.toArray⟩, .slice ab kb.length cb]) rfl ?_)
    | (go_at_call 21; have H := Of_chunk (u := ub) (data := db) Gb.out (by omega) hE6 rb.cons.cons.cons; refine H.mono ?_; clear H hE6; rintro e w2 ⟨v, rfl, ob, pb, rfl, hE7⟩)
    | (go_at_call 23; have H := cPut_yes (u := ub) (data := db) Gb.out MB.out hE7 (fun W hW => reads_row hW 0 rfl); refine H.mono ?_; clear H hE7; rintro e w2 ⟨v, rfl, ay, cy, rfl, hE8⟩))
  refine wp_region_held_drew (S := (fun _ => True)) (by kernel_rfl) trivial (fun hS => ?_)
  refine wpAnyH_take (i := 0) (oi := { dst := some 42, op := Go.Op.move (Go.Operand.tmp 8), type := 25, pos := "law.go:90", after := #[], guard := none }) (v := ?_) rfl (by kernel_rfl) (by kernel_rfl) (by kernel_rfl) (fun _ _ _ h => h) (Or.inl ⟨by rfl, ?_⟩) hS ?_
  rotate_left
  · (intro w hSw; (try dsimp only at hSw); go_simp; (try with_reducible rfl))
  try simp only [Act.put, List.setIfInBounds_toArray, List.set_cons_zero, List.set_cons_succ]
  refine wpAnyH_take (i := 1) (oi := { dst := some 43, op := Go.Op.binOp Go.BinOp.eql 25 (Go.Operand.tmp 42) (Go.Operand.const (Go.Value.int Go.IntKind.i64 0)) 25, type := 4, pos := "law.go:90", after := #[{ on := 0, ground := Go.Ground.data }], guard := none }) (v := ?_) rfl (by kernel_rfl) (by kernel_rfl) (by kernel_rfl) (fun _ _ _ h => h) (Or.inl ⟨by rfl, ?_⟩) hS ?_
  rotate_left
  · (intro w hSw; (try dsimp only at hSw); go_simp; (try with_reducible rfl))
  try simp only [Act.put, List.setIfInBounds_toArray, List.set_cons_zero, List.set_cons_succ]
  refine wpAnyH_take (i := 2) (oi := { dst := some 44, op := Go.Op.move (Go.Operand.tmp 43), type := 4, pos := "law.go:90", after := #[{ on := 1, ground := Go.Ground.data }], guard := none }) (v := ?_) rfl (by kernel_rfl) (by kernel_rfl) (by kernel_rfl) (fun _ _ _ h => h) (Or.inl ⟨by rfl, ?_⟩) hS ?_
  rotate_left
  · (intro w hSw; (try dsimp only at hSw); go_simp; (try with_reducible rfl))
  try simp only [Act.put, List.setIfInBounds_toArray, List.set_cons_zero, List.set_cons_succ]
  refine wpAnyH_take (i := 3) (oi := { dst := some 45, op := Go.Op.move (Go.Operand.tmp 10), type := 25, pos := "law.go:90", after := #[{ on := 2, ground := Go.Ground.guard }], guard := some (2, true) }) (v := undef) rfl (by kernel_rfl) (by kernel_rfl) (by kernel_rfl) (fun _ _ _ h => h) (Or.inr ⟨by rfl, rfl⟩) hS ?_
  try simp only [Act.put, List.setIfInBounds_toArray, List.set_cons_zero, List.set_cons_succ]
  refine wpAnyH_take (i := 4) (oi := { dst := some 46, op := Go.Op.binOp Go.BinOp.eql 25 (Go.Operand.tmp 45) (Go.Operand.const (Go.Value.int Go.IntKind.i64 0)) 25, type := 4, pos := "law.go:90", after := #[{ on := 3, ground := Go.Ground.data }, { on := 2, ground := Go.Ground.guard }], guard := some (2, true) }) (v := undef) rfl (by kernel_rfl) (by kernel_rfl) (by kernel_rfl) (fun _ _ _ h => h) (Or.inr ⟨by rfl, rfl⟩) hS ?_
  try simp only [Act.put, List.setIfInBounds_toArray, List.set_cons_zero, List.set_cons_succ]
  refine wpAnyH_take (i := 5) (oi := { dst := some 47, op := Go.Op.pick (Go.Operand.tmp 44) (Go.Operand.tmp 46) (Go.Operand.const (Go.Value.bool false)), type := 4, pos := "law.go:90", after := #[{ on := 2, ground := Go.Ground.data }, { on := 4, ground := Go.Ground.data }], guard := none }) (v := ?_) rfl (by kernel_rfl) (by kernel_rfl) (by kernel_rfl) (fun _ _ _ h => h) (Or.inl ⟨by rfl, ?_⟩) hS ?_
  rotate_left
  · (intro w hSw; (try dsimp only at hSw); go_simp; (try with_reducible rfl))
  try simp only [Act.put, List.setIfInBounds_toArray, List.set_cons_zero, List.set_cons_succ]
  refine wpAnyH_take (i := 6) (oi := { dst := some 48, op := Go.Op.move (Go.Operand.tmp 47), type := 4, pos := "law.go:90", after := #[{ on := 5, ground := Go.Ground.data }, { on := 2, ground := Go.Ground.chain }], guard := none }) (v := ?_) rfl (by kernel_rfl) (by kernel_rfl) (by kernel_rfl) (fun _ _ _ h => h) (Or.inl ⟨by rfl, ?_⟩) hS ?_
  rotate_left
  · (intro w hSw; (try dsimp only at hSw); go_simp; (try with_reducible rfl))
  try simp only [Act.put, List.setIfInBounds_toArray, List.set_cons_zero, List.set_cons_succ]
  refine wpAnyH_take (i := 7) (oi := { dst := some 49, op := Go.Op.move (Go.Operand.tmp 7), type := 42, pos := "law.go:90", after := #[{ on := 6, ground := Go.Ground.guard }], guard := some (6, true) }) (v := undef) rfl (by kernel_rfl) (by kernel_rfl) (by kernel_rfl) (fun _ _ _ h => h) (Or.inr ⟨by rfl, rfl⟩) hS ?_
  try simp only [Act.put, List.setIfInBounds_toArray, List.set_cons_zero, List.set_cons_succ]
  refine wpAnyH_take (i := 8) (oi := { dst := some 50, op := Go.Op.convert 42 9 (Go.Operand.tmp 49), type := 9, pos := "law.go:90", after := #[{ on := 7, ground := Go.Ground.data }, { on := 6, ground := Go.Ground.guard }], guard := some (6, true) }) (v := undef) rfl (by kernel_rfl) (by kernel_rfl) (by kernel_rfl) (fun _ _ _ h => h) (Or.inr ⟨by rfl, rfl⟩) hS ?_
  try simp only [Act.put, List.setIfInBounds_toArray, List.set_cons_zero, List.set_cons_succ]
  refine wpAnyH_take (i := 9) (oi := { dst := some 51, op := Go.Op.move (Go.Operand.tmp 9), type := 42, pos := "law.go:90", after := #[{ on := 6, ground := Go.Ground.guard }], guard := some (6, true) }) (v := undef) rfl (by kernel_rfl) (by kernel_rfl) (by kernel_rfl) (fun _ _ _ h => h) (Or.inr ⟨by rfl, rfl⟩) hS ?_
  try simp only [Act.put, List.setIfInBounds_toArray, List.set_cons_zero, List.set_cons_succ]
  refine wpAnyH_take (i := 10) (oi := { dst := some 52, op := Go.Op.convert 42 9 (Go.Operand.tmp 51), type := 9, pos := "law.go:90", after := #[{ on := 9, ground := Go.Ground.data }, { on := 6, ground := Go.Ground.guard }], guard := some (6, true) }) (v := undef) rfl (by kernel_rfl) (by kernel_rfl) (by kernel_rfl) (fun _ _ _ h => h) (Or.inr ⟨by rfl, rfl⟩) hS ?_
  try simp only [Act.put, List.setIfInBounds_toArray, List.set_cons_zero, List.set_cons_succ]
  refine wpAnyH_take (i := 11) (oi := { dst := some 53, op := Go.Op.binOp Go.BinOp.eql 9 (Go.Operand.tmp 50) (Go.Operand.tmp 52) 9, type := 4, pos := "law.go:90", after := #[{ on := 8, ground := Go.Ground.data }, { on := 10, ground := Go.Ground.data }, { on := 6, ground := Go.Ground.guard }], guard := some (6, true) }) (v := undef) rfl (by kernel_rfl) (by kernel_rfl) (by kernel_rfl) (fun _ _ _ h => h) (Or.inr ⟨by rfl, rfl⟩) hS ?_
  try simp only [Act.put, List.setIfInBounds_toArray, List.set_cons_zero, List.set_cons_succ]
  refine wpAnyH_take (i := 12) (oi := { dst := some 54, op := Go.Op.load 45 (Go.Operand.tmp 3), type := 45, pos := "law.go:90", after := #[{ on := 6, ground := Go.Ground.guard }], guard := some (6, true) }) (v := undef) rfl (by kernel_rfl) (by kernel_rfl) (by kernel_rfl) (fun _ _ _ h => h) (Or.inr ⟨by rfl, rfl⟩) hS ?_
  try simp only [Act.put, List.setIfInBounds_toArray, List.set_cons_zero, List.set_cons_succ]
  refine wpAnyH_take (i := 13) (oi := { dst := some 55, op := Go.Op.call { callee := Go.Callee.value (Go.Operand.func 21), args := #[Go.Operand.tmp 54], argTypes := #[45] }, type := 39, pos := "law.go:90", after := #[{ on := 12, ground := Go.Ground.data }, { on := 6, ground := Go.Ground.chain }, { on := 6, ground := Go.Ground.guard }], guard := some (6, true) }) (v := undef) rfl (by kernel_rfl) (by kernel_rfl) (by kernel_rfl) (fun _ _ _ h => h) (Or.inr ⟨by rfl, rfl⟩) hS ?_
  try simp only [Act.put, List.setIfInBounds_toArray, List.set_cons_zero, List.set_cons_succ]
  refine wpAnyH_take (i := 14) (oi := { dst := some 56, op := Go.Op.load 45 (Go.Operand.tmp 4), type := 45, pos := "law.go:90", after := #[{ on := 6, ground := Go.Ground.guard }], guard := some (6, true) }) (v := undef) rfl (by kernel_rfl) (by kernel_rfl) (by kernel_rfl) (fun _ _ _ h => h) (Or.inr ⟨by rfl, rfl⟩) hS ?_
  try simp only [Act.put, List.setIfInBounds_toArray, List.set_cons_zero, List.set_cons_succ]
  refine wpAnyH_take (i := 15) (oi := { dst := some 57, op := Go.Op.call { callee := Go.Callee.value (Go.Operand.func 21), args := #[Go.Operand.tmp 56], argTypes := #[45] }, type := 39, pos := "law.go:90", after := #[{ on := 14, ground := Go.Ground.data }, { on := 13, ground := Go.Ground.chain }, { on := 6, ground := Go.Ground.guard }], guard := some (6, true) }) (v := undef) rfl (by kernel_rfl) (by kernel_rfl) (by kernel_rfl) (fun _ _ _ h => h) (Or.inr ⟨by rfl, rfl⟩) hS ?_
  try simp only [Act.put, List.setIfInBounds_toArray, List.set_cons_zero, List.set_cons_succ]
  refine wpAnyH_take (i := 16) (oi := { dst := some 58, op := Go.Op.call { callee := Go.Callee.value (Go.Operand.func 20), args := #[Go.Operand.tmp 55, Go.Operand.tmp 57], argTypes := #[39, 39] }, type := 4, pos := "law.go:90", after := #[{ on := 13, ground := Go.Ground.data }, { on := 15, ground := Go.Ground.data }, { on := 15, ground := Go.Ground.chain }, { on := 6, ground := Go.Ground.guard }], guard := some (6, true) }) (v := undef) rfl (by kernel_rfl) (by kernel_rfl) (by kernel_rfl) (fun _ _ _ h => h) (Or.inr ⟨by rfl, rfl⟩) hS ?_
  try simp only [Act.put, List.setIfInBounds_toArray, List.set_cons_zero, List.set_cons_succ]
  refine wpAnyH_take (i := 17) (oi := { dst := some 59, op := Go.Op.binOp Go.BinOp.neq 4 (Go.Operand.tmp 53) (Go.Operand.tmp 58) 4, type := 4, pos := "law.go:90", after := #[{ on := 11, ground := Go.Ground.data }, { on := 16, ground := Go.Ground.data }, { on := 6, ground := Go.Ground.guard }], guard := some (6, true) }) (v := undef) rfl (by kernel_rfl) (by kernel_rfl) (by kernel_rfl) (fun _ _ _ h => h) (Or.inr ⟨by rfl, rfl⟩) hS ?_
  try simp only [Act.put, List.setIfInBounds_toArray, List.set_cons_zero, List.set_cons_succ]
  refine wpAnyH_take (i := 18) (oi := { dst := some 60, op := Go.Op.pick (Go.Operand.tmp 48) (Go.Operand.tmp 59) (Go.Operand.const (Go.Value.bool false)), type := 4, pos := "law.go:90", after := #[{ on := 6, ground := Go.Ground.data }, { on := 17, ground := Go.Ground.data }], guard := none }) (v := ?_) rfl (by kernel_rfl) (by kernel_rfl) (by kernel_rfl) (fun _ _ _ h => h) (Or.inl ⟨by rfl, ?_⟩) hS ?_
  rotate_left
  · (intro w hSw; (try dsimp only at hSw); go_simp; (try with_reducible rfl))
  try simp only [Act.put, List.setIfInBounds_toArray, List.set_cons_zero, List.set_cons_succ]
  refine wpAnyH_done (by kernel_rfl) ?_ _
  all_goals
    replace hE8 := hE8.drew
    go_wp2_with (first
      | go_skip
      | (go_at_call 18; have H := cTake_any (bs := bs) hbs hE8 (rs.cons.cons.cons.cons.cons); rw [K1.out, K2.out] at H; refine H.mono ?_; clear H hE8; rintro e w2 ⟨v, rfl, as1, cs1, rfl, hG1⟩)
      | ((with_reducible (show Go.wpList _ _ _ (Go.Oper.mk _ (.alloc _) _ _ _ _ :: _) _ _)); refine wpl_alloc hG1 rfl rfl (by simp [go_sem]; rfl) ?_; clear hG1; intro b14 w hG2; simp only [Act.eval, Act.put, List.setIfInBounds_toArray, List.set_cons_zero, List.set_cons_succ, getD_lit, List.getD_cons_succ, List.getD_cons_zero, Value.cells] at hG2)
      | ((with_reducible (show Go.wpList _ _ _ (Go.Oper.mk _ (.store _ (.tmp 14) _) _ _ _ _ :: _) _ _)); refine wpl_storeW hG2 0 rfl rfl rfl (xs := [.int .u8 cs.kind.toNat, .string ⟨cs.data.toArray⟩, .slice as1 cs.kids.length cs1]) rfl rfl Try.sizeOf39 rfl (by simp [Value.oneCell']) rfl ?_; clear hG2; intro w hG3; simp only [List.set_cons_zero, List.set_cons_succ] at hG3)
      | ((with_reducible (show Go.wpList _ _ _ (Go.Oper.mk _ (.load 39 _) _ _ _ _ :: _) _ _)); refine wpl_loadW hG3 0 rfl rfl rfl rfl Try.isAgg39 Try.sizeOf39 (xs := [.int .u8 cs.kind.toNat, .string ⟨cs.data.toArray⟩, .slice as1 cs.kids.length cs1]) rfl ?_)
      | (go_at_call 23; have H := cPut_yes (u := cs.kind) (data := cs.data) (ks := cs.kids) CG.out CM.out hG3 (fun W hW => reads_row hW 1 rfl); rw [CP.out] at H; refine H.mono ?_; clear H hG3; rintro e w2 ⟨v, rfl, a16, c16, rfl, hG4⟩)
      | ((with_reducible (show Go.wpList _ _ _ (Go.Oper.mk _ (.convert _ _ (.tmp 130)) _ _ _ _ :: _) _ _)); refine wpl_bytesStr (bs := bs) rfl rfl rfl Try.underlying42 Try.underlying5 Try.underlying9 (reads_row hG4 0 rfl) rfl ?_)
      | ((with_reducible (show Go.wpList _ _ _ (Go.Oper.mk _ (.convert _ _ (.tmp 132)) _ _ _ _ :: _) _ _)); refine wpl_bytesStr (bs := bs) rfl rfl rfl Try.underlying42 Try.underlying5 Try.underlying9 (rs _ hG4.tail.tail.tail.tail.tail.tail.tail.tail) rfl ?_)
      | (go_at_call 17; have H := wakes12_any hG4; refine H.mono ?_; clear H hG4; rintro e w2 ⟨v, rfl, rfl, hZ⟩))
    go_ret
    exact ⟨_, rfl, rfl, hZ.tail.tail.tail.tail.tail.tail.tail.tail⟩
end Go.Proofs.Ytohdljcpaogokaa
