/-
  The law of sheets and sectors: the walk of its function. Printed by gen_ss9.py.
-/
import Derived.Test.YtdpfigkjkjjedaaDoorSheetsF3
import Derived.Lib.SmallJoins
import Derived.Deep.RegionLaw
namespace Go.Proofs.YtdpfigkjkjjedaaDoor
open Go.RowKit Go.SL

set_option maxRecDepth 100000 in
theorem of05_any (s : Sht) {l : List HProp} {w : World} (hE : Ent l w) :
    Calls Tryd.prog 12 #[.agg #[.int .u64 s.seq, .bool s.last, .string ⟨s.text.toArray⟩]] w (Ret fun v w' => v = .agg #[.int .u64 s.seq, .bool s.last, .string ⟨s.text.toArray⟩] ∧ Ent l w') := by
  go_enter Tryd.func12, Tryd.ntmps12
  go_wp2_with (first
    | go_skip
    | ((with_reducible (show Go.wpList _ _ _ (Go.Oper.mk _ (.box _ _) _ _ _ _ :: _) _ _)); refine wpl_box hE rfl rfl rfl ?_; clear hE; intro b1 w hE; simp only [Act.eval, Act.put, List.setIfInBounds_toArray, List.set_cons_zero, List.set_cons_succ, getD_lit, List.getD_cons_succ, List.getD_cons_zero, Value.cells] at hE)
    | ((with_reducible (show Go.wpList _ _ _ (Go.Oper.mk _ (.alloc _) _ _ _ _ :: _) _ _)); refine wpl_alloc hE rfl rfl (by simp [go_sem]; rfl) ?_; clear hE; intro b2 w hE; simp only [Act.eval, Act.put, List.setIfInBounds_toArray, List.set_cons_zero, List.set_cons_succ, getD_lit, List.getD_cons_succ, List.getD_cons_zero, Value.cells] at hE)
    | ((with_reducible (show Go.wpList _ _ _ (Go.Oper.mk _ (.store _ _ _) _ _ _ _ :: _) _ _)); refine wpl_storeW hE 0 rfl rfl rfl (xs := [.int .u64 s.seq, .bool s.last, .string ⟨s.text.toArray⟩]) rfl rfl Tryd.sizeOf30 rfl (by simp [Value.oneCell']) rfl ?_; clear hE; intro w hE; simp only [List.set_cons_zero] at hE)
    | ((with_reducible (show Go.wpList _ _ _ (Go.Oper.mk _ (.load _ _) _ _ _ _ :: _) _ _)); (first | (refine wpl_load1 hE 0 rfl rfl rfl rfl (by simp [go_sem]) rfl ?_) | (refine wpl_load1 hE 1 rfl rfl rfl rfl (by simp [go_sem]) rfl ?_) | (refine wpl_load1 hE 2 rfl rfl rfl rfl (by simp [go_sem]) rfl ?_) | (refine wpl_load1 hE 3 rfl rfl rfl rfl (by simp [go_sem]) rfl ?_) | (refine wpl_load1 hE 4 rfl rfl rfl rfl (by simp [go_sem]) rfl ?_) | (refine wpl_load1 hE 5 rfl rfl rfl rfl (by simp [go_sem]) rfl ?_) | (refine wpl_load1 hE 6 rfl rfl rfl rfl (by simp [go_sem]) rfl ?_) | (refine wpl_load1 hE 7 rfl rfl rfl rfl (by simp [go_sem]) rfl ?_))))
  refine bodyPost_ret (results_cellA rfl hE 0 rfl rfl Tryd.isAgg30 Tryd.sizeOf30 rfl) rfl ?_
  exact ⟨_, rfl, rfl, hE.tail.tail⟩
theorem conv_row {l : List HProp} {w : World} (hE : Ent l w) (i : Nat) {ao : Option Addr} {c : Nat} {bs : List UInt8} (hi : l[i]? = some (rowB ao c bs)) : (convert 26 9 (.slice ao bs.length c)).run Tryd.prog w = .ok (.string ⟨bs.toArray⟩) w :=
  bytesToString_reads (P := Tryd.prog) Tryd.underlying26 Tryd.underlying5 Tryd.underlying9 (reads_row hE i hi) rfl

set_option maxRecDepth 100000 in
set_option maxHeartbeats 4000000 in
theorem SheetPuts_great {s : Sht} {b : List UInt8} (hg : 1000 < s.text.length ∨ 1000 < b.length) {l : List HProp} {w : World} (ht : Knows l Table) (hE : Ent l w) :
    Calls Tryd.prog 3 #[.agg #[.int .u64 s.seq, .bool s.last, .string ⟨s.text.toArray⟩], .string ⟨b.toArray⟩] w (Ret fun v w' => v = .bool true ∧ Ent l w') := by
  by_cases h1 : 1000 < s.text.length
  · have hd : decide ((1000 : Int) < (s.text.length : Int)) = true := decide_eq_true (by omega)
    go_enter Tryd.func3, Tryd.ntmps3
    go_wp2_with (first
      | go_skip
      | ((with_reducible (show Go.wpList _ _ _ (Go.Oper.mk _ (.box _ _) _ _ _ _ :: _) _ _)); refine wpl_box hE rfl rfl rfl ?_; clear hE; intro b1 w hE; simp only [Act.eval, Act.put, List.setIfInBounds_toArray, List.set_cons_zero, List.set_cons_succ, getD_lit, List.getD_cons_succ, List.getD_cons_zero, Value.cells] at hE)
      | ((with_reducible (show Go.wpList _ _ _ (Go.Oper.mk _ (.load _ _) _ _ _ _ :: _) _ _)); (first | (refine wpl_load1 hE 0 rfl rfl rfl rfl (by simp [go_sem]) rfl ?_) | (refine wpl_load1 hE 1 rfl rfl rfl rfl (by simp [go_sem]) rfl ?_) | (refine wpl_load1 hE 2 rfl rfl rfl rfl (by simp [go_sem]) rfl ?_) | (refine wpl_load1 hE 3 rfl rfl rfl rfl (by simp [go_sem]) rfl ?_) | (refine wpl_load1 hE 4 rfl rfl rfl rfl (by simp [go_sem]) rfl ?_) | (refine wpl_load1 hE 5 rfl rfl rfl rfl (by simp [go_sem]) rfl ?_) | (refine wpl_load1 hE 6 rfl rfl rfl rfl (by simp [go_sem]) rfl ?_) | (refine wpl_load1 hE 7 rfl rfl rfl rfl (by simp [go_sem]) rfl ?_)))
      | (go_at_call 10; refine (wakes05_any ht hE.tail).mono ?_; clear hE; rintro e w2 ⟨v, rfl, rfl, hE⟩))
    go_ret
    exact ⟨_, rfl, rfl, hE⟩
  · have hd : decide ((1000 : Int) < (s.text.length : Int)) = false := decide_eq_false (by omega)
    have hd2 : decide ((1000 : Int) < (b.length : Int)) = true := decide_eq_true (by omega)
    go_enter Tryd.func3, Tryd.ntmps3
    go_wp2_with (first
      | go_skip
      | ((with_reducible (show Go.wpList _ _ _ (Go.Oper.mk _ (.box _ _) _ _ _ _ :: _) _ _)); refine wpl_box hE rfl rfl rfl ?_; clear hE; intro b1 w hE; simp only [Act.eval, Act.put, List.setIfInBounds_toArray, List.set_cons_zero, List.set_cons_succ, getD_lit, List.getD_cons_succ, List.getD_cons_zero, Value.cells] at hE)
      | ((with_reducible (show Go.wpList _ _ _ (Go.Oper.mk _ (.load _ _) _ _ _ _ :: _) _ _)); (first | (refine wpl_load1 hE 0 rfl rfl rfl rfl (by simp [go_sem]) rfl ?_) | (refine wpl_load1 hE 1 rfl rfl rfl rfl (by simp [go_sem]) rfl ?_) | (refine wpl_load1 hE 2 rfl rfl rfl rfl (by simp [go_sem]) rfl ?_) | (refine wpl_load1 hE 3 rfl rfl rfl rfl (by simp [go_sem]) rfl ?_) | (refine wpl_load1 hE 4 rfl rfl rfl rfl (by simp [go_sem]) rfl ?_) | (refine wpl_load1 hE 5 rfl rfl rfl rfl (by simp [go_sem]) rfl ?_) | (refine wpl_load1 hE 6 rfl rfl rfl rfl (by simp [go_sem]) rfl ?_) | (refine wpl_load1 hE 7 rfl rfl rfl rfl (by simp [go_sem]) rfl ?_)))
      | (go_at_call 10; refine (wakes05_any ht hE.tail).mono ?_; clear hE; rintro e w2 ⟨v, rfl, rfl, hE⟩))
    go_ret
    exact ⟨_, rfl, rfl, hE⟩
theorem zs_rsht : zeroSize Tryd.prog 24 = some 3 := by kernel_rfl
theorem rTake_any {b : List UInt8} (hb : b.length ≤ 1000000) {l : List HProp} {w : World} (hE : Ent l w) :
    Calls Tryd.prog 15 #[.string ⟨b.toArray⟩] w (Ret fun v w' => v = .tuple #[shV (resD b), .int .i64 (resDE b)] ∧ Ent l w') := by
  cases h : b.length == 512 with
  | true => exact rTake_512 (by simpa using h) hE
  | false => exact rTake_short hb h hE

set_option maxRecDepth 100000 in
set_option maxHeartbeats 4000000 in
attribute [-go_sem] Instr.loadAt Go.run_equalIn_agg in
theorem SheetPuts_long {s : Sht} (hs : s.seq < 18446744073709551616) {b : List UInt8} (h1 : s.text.length ≤ 1000) (h2 : b.length ≤ 1000) (hlen : 497 < s.text.length) {l : List HProp} {w : World} (ht : Knows l Table) (hE : Ent l w) :
    Calls Tryd.prog 3 #[.agg #[.int .u64 s.seq, .bool s.last, .string ⟨s.text.toArray⟩], .string ⟨b.toArray⟩] w (Ret fun v w' => v = .bool true ∧ Ent l w') := by
  have hd : decide ((1000 : Int) < (s.text.length : Int)) = false := decide_eq_false (by omega)
  have hd2 : decide ((1000 : Int) < (b.length : Int)) = false := decide_eq_false (by omega)
  have Hs := SL.hid hs
  have H1 := SL.hid h1
  have H2 := SL.hid h2
  have hd3 : decide ((497 : Int) < (s.text.length : Int)) = true := decide_eq_true (by omega)
  have hd4 : decide ((s.text.length : Int) ≤ 497) = false := decide_eq_false (by omega)
  have Hlen := SL.hid hlen
  clear hlen
  clear hs h1 h2
  obtain ⟨sq, la, tt⟩ := s
  simp only at *
  go_enter Tryd.func3, Tryd.ntmps3
  go_wp2_with (first
    | go_skip
    | ((with_reducible (show Go.wpList _ _ _ (Go.Oper.mk _ (.box _ _) _ _ _ _ :: _) _ _)); refine wpl_box hE rfl rfl rfl ?_; clear hE; intro b1 w hE; simp only [Act.eval, Act.put, List.setIfInBounds_toArray, List.set_cons_zero, List.set_cons_succ, getD_lit, List.getD_cons_succ, List.getD_cons_zero, Value.cells] at hE)
    | ((with_reducible (show Go.wpList _ _ _ (Go.Oper.mk _ (.load 24 _) _ _ _ _ :: _) _ _)); refine wpl_loadW hE 0 rfl rfl rfl rfl Tryd.isAgg24 Tryd.sizeOf24 rfl ?_)
    | ((with_reducible (show Go.wpList _ _ _ (Go.Oper.mk _ (.load _ _) _ _ _ _ :: _) _ _)); (first | (refine wpl_load1 hE 0 rfl rfl rfl rfl (by simp [go_sem]) rfl ?_) | (refine wpl_load1 hE 1 rfl rfl rfl rfl (by simp [go_sem]) rfl ?_) | (refine wpl_load1 hE 2 rfl rfl rfl rfl (by simp [go_sem]) rfl ?_) | (refine wpl_load1 hE 3 rfl rfl rfl rfl (by simp [go_sem]) rfl ?_) | (refine wpl_load1 hE 4 rfl rfl rfl rfl (by simp [go_sem]) rfl ?_) | (refine wpl_load1 hE 5 rfl rfl rfl rfl (by simp [go_sem]) rfl ?_) | (refine wpl_load1 hE 6 rfl rfl rfl rfl (by simp [go_sem]) rfl ?_) | (refine wpl_load1 hE 7 rfl rfl rfl rfl (by simp [go_sem]) rfl ?_)))
    | (go_at_call 12; refine (of05_any ⟨sq, la, tt⟩ hE).mono ?_; clear hE; rintro e w2 ⟨v, rfl, rfl, hE⟩)
    | (go_at_call 11; refine (sPut_long Hlen.out hE).mono ?_; clear hE; rintro e w3 ⟨v, rfl, rfl, hE⟩))
  refine wp_region_held_drew (S := (fun w' => ((Instr.loadAt 9 (.pointer (some ⟨b1, 2, none⟩))).run Tryd.prog w' = .ok (.string ⟨tt.toArray⟩) w'))) (by kernel_rfl) (atVm hE.drew (by repeat (first | exact List.Mem.head _ | refine List.Mem.tail _ ?_)) (by simp [go_sem]) rfl) (fun hS => ?_)
  refine takeW 0 ⟨some 27, .fieldAddr 24 (.tmp 2) 2, 0, "law.go:33", #[], none⟩ ?_ (.inl ⟨by rfl, ?_⟩) hS ?_
  rotate_left
  · (intro w hSw; (try dsimp only at hSw); go_simp; (try with_reducible rfl))
  try simp only [Act.put, sb, s0, sz]
  refine takeW 1 ⟨some 28, .load 9 (.tmp 27), 9, "law.go:33", #[⟨0, .data⟩], none⟩ ?_ (.inl ⟨by rfl, ?_⟩) hS ?_
  rotate_left
  · (intro w hSw; (try dsimp only at hSw); go_simp; (try with_reducible rfl))
  try simp only [Act.put, sb, s0, sz]
  refine takeW 2 ⟨some 29, .call { callee := .builtin .len, args := #[.tmp 28], argTypes := #[9] }, 3, "law.go:33", #[⟨1, .data⟩], none⟩ ?_ (.inl ⟨by rfl, ?_⟩) hS ?_
  rotate_left
  · (intro w hSw; (try dsimp only at hSw); go_simp; (try with_reducible rfl))
  try simp only [Act.put, sb, s0, sz]
  refine takeW 3 ⟨some 30, .binOp .gtr 3 (.tmp 29) (.const (.int .i64 497)) 3, 4, "law.go:33", #[⟨2, .data⟩], none⟩ ?_ (.inl ⟨by rfl, ?_⟩) hS ?_
  rotate_left
  · (intro w hSw; (try dsimp only at hSw); go_simp; (try with_reducible rfl))
  try simp only [Act.put, sb, s0, sz]
  refine takeW 4 ⟨some 31, .move (.tmp 30), 4, "law.go:33", #[⟨3, .data⟩], none⟩ ?_ (.inl ⟨by rfl, ?_⟩) hS ?_
  rotate_left
  · (intro w hSw; (try dsimp only at hSw); go_simp; (try with_reducible rfl))
  try simp only [Act.put, sb, s0, sz]
  refine takeW 5 ⟨some 32, .move (.tmp 5), 26, "law.go:33", #[⟨4, .guard⟩], some (4, true)⟩ ?_ (.inl ⟨by rfl, ?_⟩) hS ?_
  rotate_left
  · (intro w hSw; (try dsimp only at hSw); go_simp; (try with_reducible rfl))
  try simp only [Act.put, sb, s0, sz]
  refine takeW 6 ⟨some 33, .call { callee := .builtin .len, args := #[.tmp 32], argTypes := #[26] }, 3, "law.go:33", #[⟨5, .data⟩, ⟨4, .guard⟩], some (4, true)⟩ ?_ (.inl ⟨by rfl, ?_⟩) hS ?_
  rotate_left
  · (intro w hSw; (try dsimp only at hSw); go_simp; (try with_reducible rfl))
  try simp only [Act.put, sb, s0, sz]
  refine takeW 7 ⟨some 34, .binOp .neq 3 (.tmp 33) (.const (.int .i64 0)) 3, 4, "law.go:33", #[⟨6, .data⟩, ⟨4, .guard⟩], some (4, true)⟩ ?_ (.inl ⟨by rfl, ?_⟩) hS ?_
  rotate_left
  · (intro w hSw; (try dsimp only at hSw); go_simp; (try with_reducible rfl))
  try simp only [Act.put, sb, s0, sz]
  refine takeW 8 ⟨some 35, .move (.tmp 34), 4, "law.go:33", #[⟨7, .data⟩, ⟨4, .chain⟩, ⟨4, .guard⟩], some (4, true)⟩ ?_ (.inl ⟨by rfl, ?_⟩) hS ?_
  rotate_left
  · (intro w hSw; (try dsimp only at hSw); go_simp; (try with_reducible rfl))
  try simp only [Act.put, sb, s0, sz]
  refine takeW 9 ⟨some 36, .move (.tmp 6), 27, "law.go:33", #[⟨8, .guard⟩], some (8, false)⟩ ?_ (.inl ⟨by rfl, ?_⟩) hS ?_
  rotate_left
  · (intro w hSw; (try dsimp only at hSw); go_simp; (try with_reducible rfl))
  try simp only [Act.put, sb, s0, sz]
  refine takeW 10 ⟨some 37, .binOp .neq 27 (.tmp 36) (.const (.int .i64 6)) 27, 4, "law.go:33", #[⟨9, .data⟩, ⟨8, .guard⟩], some (8, false)⟩ ?_ (.inl ⟨by rfl, ?_⟩) hS ?_
  rotate_left
  · (intro w hSw; (try dsimp only at hSw); go_simp; (try with_reducible rfl))
  try simp only [Act.put, sb, s0, sz]
  refine takeW 11 ⟨some 38, .pick (.tmp 35) (.const (.bool true)) (.tmp 37), 4, "law.go:33", #[⟨8, .data⟩, ⟨10, .data⟩, ⟨4, .guard⟩], some (4, true)⟩ ?_ (.inl ⟨by rfl, ?_⟩) hS ?_
  rotate_left
  · (intro w hSw; (try dsimp only at hSw); go_simp; (try with_reducible rfl))
  try simp only [Act.put, sb, s0, sz]
  refine takeW 12 ⟨some 39, .pick (.tmp 31) (.tmp 38) (.const (.bool false)), 4, "law.go:33", #[⟨4, .data⟩, ⟨11, .data⟩], none⟩ ?_ (.inl ⟨by rfl, ?_⟩) hS ?_
  rotate_left
  · (intro w hSw; (try dsimp only at hSw); go_simp; (try with_reducible rfl))
  try simp only [Act.put, sb, s0, sz]
  refine takeW 13 ⟨some 40, .move (.tmp 39), 4, "law.go:33", #[⟨12, .data⟩, ⟨8, .chain⟩], none⟩ ?_ (.inl ⟨by rfl, ?_⟩) hS ?_
  rotate_left
  · (intro w hSw; (try dsimp only at hSw); go_simp; (try with_reducible rfl))
  try simp only [Act.put, sb, s0, sz]
  refine takeW 14 ⟨some 41, .fieldAddr 24 (.tmp 2) 2, 0, "law.go:33", #[⟨13, .guard⟩], some (13, false)⟩ ?_ (.inl ⟨by rfl, ?_⟩) hS ?_
  rotate_left
  · (intro w hSw; (try dsimp only at hSw); go_simp; (try with_reducible rfl))
  try simp only [Act.put, sb, s0, sz]
  refine takeW 15 ⟨some 42, .load 9 (.tmp 41), 9, "law.go:33", #[⟨14, .data⟩, ⟨13, .guard⟩], some (13, false)⟩ ?_ (.inl ⟨by rfl, ?_⟩) hS ?_
  rotate_left
  · (intro w hSw; (try dsimp only at hSw); go_simp; (try with_reducible rfl))
  try simp only [Act.put, sb, s0, sz]
  refine takeW 16 ⟨some 43, .call { callee := .builtin .len, args := #[.tmp 42], argTypes := #[9] }, 3, "law.go:33", #[⟨15, .data⟩, ⟨13, .guard⟩], some (13, false)⟩ ?_ (.inl ⟨by rfl, ?_⟩) hS ?_
  rotate_left
  · (intro w hSw; (try dsimp only at hSw); go_simp; (try with_reducible rfl))
  try simp only [Act.put, sb, s0, sz]
  refine takeW 17 ⟨some 44, .binOp .leq 3 (.tmp 43) (.const (.int .i64 497)) 3, 4, "law.go:33", #[⟨16, .data⟩, ⟨13, .guard⟩], some (13, false)⟩ ?_ (.inl ⟨by rfl, ?_⟩) hS ?_
  rotate_left
  · (intro w hSw; (try dsimp only at hSw); go_simp; (try with_reducible rfl))
  try simp only [Act.put, sb, s0, sz]
  refine takeW 18 ⟨some 45, .move (.tmp 44), 4, "law.go:33", #[⟨17, .data⟩, ⟨13, .chain⟩, ⟨13, .guard⟩], some (13, false)⟩ ?_ (.inl ⟨by rfl, ?_⟩) hS ?_
  rotate_left
  · (intro w hSw; (try dsimp only at hSw); go_simp; (try with_reducible rfl))
  try simp only [Act.put, sb, s0, sz]
  refine takeW 19 ⟨some 46, .move (.tmp 5), 26, "law.go:33", #[⟨18, .guard⟩], some (18, true)⟩ undef (.inr ⟨by rfl, rfl⟩) hS ?_; try simp only [Act.put, sb, s0, sz]
  refine takeW 20 ⟨some 47, .convert 26 9 (.tmp 46), 9, "law.go:33", #[⟨19, .data⟩, ⟨18, .guard⟩], some (18, true)⟩ undef (.inr ⟨by rfl, rfl⟩) hS ?_; try simp only [Act.put, sb, s0, sz]
  refine takeW 21 ⟨some 48, .load 24 (.tmp 2), 24, "law.go:33", #[⟨18, .guard⟩], some (18, true)⟩ undef (.inr ⟨by rfl, rfl⟩) hS ?_; try simp only [Act.put, sb, s0, sz]
  refine takeW 22 ⟨some 49, .call { callee := .value (.func 13), args := #[.tmp 48], argTypes := #[24] }, 9, "law.go:33", #[⟨21, .data⟩, ⟨18, .chain⟩, ⟨18, .guard⟩], some (18, true)⟩ undef (.inr ⟨by rfl, rfl⟩) hS ?_; try simp only [Act.put, sb, s0, sz]
  refine takeW 23 ⟨some 50, .binOp .neq 9 (.tmp 47) (.tmp 49) 9, 4, "law.go:33", #[⟨20, .data⟩, ⟨22, .data⟩, ⟨18, .guard⟩], some (18, true)⟩ undef (.inr ⟨by rfl, rfl⟩) hS ?_; try simp only [Act.put, sb, s0, sz]
  refine takeW 24 ⟨some 51, .move (.tmp 50), 4, "law.go:33", #[⟨23, .data⟩, ⟨22, .chain⟩, ⟨18, .guard⟩], some (18, true)⟩ undef (.inr ⟨by rfl, rfl⟩) hS ?_; try simp only [Act.put, sb, s0, sz]
  refine takeW 25 ⟨some 52, .move (.tmp 6), 27, "law.go:33", #[⟨24, .guard⟩], some (24, false)⟩ undef (.inr ⟨by rfl, rfl⟩) hS ?_; try simp only [Act.put, sb, s0, sz]
  refine takeW 26 ⟨some 53, .binOp .neq 27 (.tmp 52) (.const (.int .i64 0)) 27, 4, "law.go:33", #[⟨25, .data⟩, ⟨24, .guard⟩], some (24, false)⟩ undef (.inr ⟨by rfl, rfl⟩) hS ?_; try simp only [Act.put, sb, s0, sz]
  refine takeW 27 ⟨some 54, .pick (.tmp 51) (.const (.bool true)) (.tmp 53), 4, "law.go:33", #[⟨24, .data⟩, ⟨26, .data⟩, ⟨18, .guard⟩], some (18, true)⟩ undef (.inr ⟨by rfl, rfl⟩) hS ?_; try simp only [Act.put, sb, s0, sz]
  refine takeW 28 ⟨some 55, .pick (.tmp 45) (.tmp 54) (.const (.bool false)), 4, "law.go:33", #[⟨18, .data⟩, ⟨27, .data⟩, ⟨13, .guard⟩], some (13, false)⟩ ?_ (.inl ⟨by rfl, ?_⟩) hS ?_
  rotate_left
  · (intro w hSw; (try dsimp only at hSw); go_simp; (try with_reducible rfl))
  try simp only [Act.put, sb, s0, sz]
  refine takeW 29 ⟨some 56, .pick (.tmp 40) (.const (.bool true)) (.tmp 55), 4, "law.go:33", #[⟨13, .data⟩, ⟨28, .data⟩], none⟩ ?_ (.inl ⟨by rfl, ?_⟩) hS ?_
  rotate_left
  · (intro w hSw; (try dsimp only at hSw); go_simp; (try with_reducible rfl))
  try simp only [Act.put, sb, s0, sz]
  refine wpAnyH_done (by kernel_rfl) ?_ _
  have hEr := hE.drew
  generalize World.drew _ = wr at hEr ⊢

  obtain ⟨e1, e2⟩ := res_same b
  have E1 := SL.hid e1
  have E2 := SL.hid e2
  clear e1 e2
  have hE4 : Ent (pt b1 (.cells #[.int .u64 sq, .bool la, .string ⟨tt.toArray⟩] 24) :: l) wr := hEr
  clear hEr
  have HT : ∀ {l' : List HProp} {w : World} {ao : Option Addr} {c : Nat}, Knows l' Table → Knows l' (reads (.slice ao b.length c) b.length (bvals b)) → Ent l' w → Calls Tryd.prog 14 #[.slice ao b.length c] w (Ret fun v w' => v = .tuple #[shV (resS b), .int .i64 (resSE b)] ∧ Ent l' w') := fun h1 h2 h3 => sTake_any (by have := H2.out; omega) h1 h2 h3
  have HR : ∀ {l : List HProp} {w : World}, Ent l w → Calls Tryd.prog 15 #[.string ⟨b.toArray⟩] w (Ret fun v w' => v = .tuple #[shV (resS b), .int .i64 (resSE b)] ∧ Ent l w') := fun h => by
    have h := rTake_any (b := b) (by have := H2.out; omega) h
    rw [← E1.out, ← E2.out] at h
    exact h
  obtain ⟨z, hz⟩ : ∃ z, resS b = z := ⟨_, rfl⟩
  obtain ⟨z1, z2, z3⟩ := z
  rw [hz] at HT HR
  simp only [shV] at HT HR
  generalize resSE b = er at *
  have hcm : ∀ w, (Op.equalIn 10000 30 (.agg #[.int .u64 z1, .bool z2, .string ⟨z3.toArray⟩]) (.agg #[.int .u64 z1, .bool z2, .string ⟨z3.toArray⟩])).run Tryd.prog w = .ok true w := fun w => by
    have := eqSht ⟨z1, z2, z3⟩ ⟨z1, z2, z3⟩ w
    rw [beq_self_eq_true] at this
    exact this
  go_wp2_with (first
    | go_skip
    | ((with_reducible (show Go.wpList _ _ _ (Go.Oper.mk _ (.convert _ _ _) _ _ _ _ :: _) _ _)); refine wpl_strB hE4 rfl rfl (ys := b) rfl ?_; clear hE4; intro bv cv w5 hE5)
    | (go_at_call 14; refine (HT (ht.cons.cons) (fun _ h => h.views 0 rfl) hE5).mono ?_; clear hE5 HT; rintro e w6 ⟨v, rfl, rfl, hE⟩)
    | ((with_reducible (show Go.wpList _ _ _ (Go.Oper.mk _ (.alloc 30) _ _ _ _ :: _) _ _)); refine wpl_allocN hE rfl rfl (n := 3) zs_sht ?_; clear hE; intro b7 cs w7 hq hE)
    | ((with_reducible (show Go.wpList _ _ _ (Go.Oper.mk _ (.store 30 _ _) _ _ _ _ :: _) _ _)); refine wpl_storeN hE 0 rfl rfl rfl rfl (xs := [.int .u64 z1, .bool z2, .string ⟨z3.toArray⟩]) rfl Tryd.sizeOf30 rfl (by simp [Value.oneCell']) hq ?_; clear hE hq; intro w8 hE; simp only [List.set_cons_zero] at hE)
    | (go_at_call 15; refine (HR hE).mono ?_; clear hE HR; rintro e w9 ⟨v, rfl, rfl, hE⟩)
    | ((with_reducible (show Go.wpList _ _ _ (Go.Oper.mk _ (.alloc 24) _ _ _ _ :: _) _ _)); refine wpl_allocN hE rfl rfl (n := 3) zs_rsht ?_; clear hE; intro b9 cs w10 hq hE)
    | ((with_reducible (show Go.wpList _ _ _ (Go.Oper.mk _ (.store 24 _ _) _ _ _ _ :: _) _ _)); refine wpl_storeN hE 0 rfl rfl rfl rfl (xs := [.int .u64 z1, .bool z2, .string ⟨z3.toArray⟩]) rfl Tryd.sizeOf24 rfl (by simp [Value.oneCell']) hq ?_; clear hE hq; intro w11 hE; simp only [List.set_cons_zero] at hE))
  refine wp_region_held_drew (S := (fun w' => ((Instr.loadAt 30 (.pointer (some ⟨b7, 0, none⟩))).run Tryd.prog w' = .ok (.agg #[.int .u64 z1, .bool z2, .string ⟨z3.toArray⟩]) w') ∧ ((Instr.loadAt 24 (.pointer (some ⟨b9, 0, none⟩))).run Tryd.prog w' = .ok (.agg #[.int .u64 z1, .bool z2, .string ⟨z3.toArray⟩]) w'))) (by kernel_rfl) ⟨(atWm hE.drew (by repeat (first | exact List.Mem.head _ | refine List.Mem.tail _ ?_)) Tryd.isAgg30 Tryd.sizeOf30 rfl), (atWm hE.drew (by repeat (first | exact List.Mem.head _ | refine List.Mem.tail _ ?_)) Tryd.isAgg24 Tryd.sizeOf24 rfl)⟩ (fun hS => ?_)
  refine takeW 0 ⟨some 68, .load 30 (.tmp 7), 30, "law.go:38", #[], none⟩ ?_ (.inl ⟨by rfl, ?_⟩) hS ?_
  rotate_left
  · (intro w hSw; (try dsimp only at hSw); go_simp; (try with_reducible rfl))
  try simp only [Act.put, sb, s0, sz]
  refine takeW 1 ⟨some 69, .load 24 (.tmp 9), 24, "law.go:38", #[], none⟩ ?_ (.inl ⟨by rfl, ?_⟩) hS ?_
  rotate_left
  · (intro w hSw; (try dsimp only at hSw); go_simp; (try with_reducible rfl))
  try simp only [Act.put, sb, s0, sz]
  refine wpAnyH_ready (rs := [2]) (by kernel_rfl) (by simp) ?_
  refine (AllReadyH.cons (o := { dst := some 70, op := Go.Op.call { callee := Go.Callee.value (Go.Operand.func 12), args := #[Go.Operand.tmp 69], argTypes := #[24] }, type := 30, pos := "law.go:38", after := #[{ on := 1, ground := Go.Ground.data }], guard := none }) rfl (fun K hK => ?_) AllReadyH.nil)
  (go_simp; refine (of05_any ⟨z1, z2, z3⟩ hE.drew).mono ?_; rintro e wa ⟨v, rfl, rfl, hEa⟩)
  refine hK.out _ _ ⟨(atWm hEa (by repeat (first | exact List.Mem.head _ | refine List.Mem.tail _ ?_)) Tryd.isAgg30 Tryd.sizeOf30 rfl), (atWm hEa (by repeat (first | exact List.Mem.head _ | refine List.Mem.tail _ ?_)) Tryd.isAgg24 Tryd.sizeOf24 rfl)⟩ (fun hS => ?_)
  clear hK K
  try simp only [Act.put, sb, s0, sz]
  refine takeW 3 ⟨some 71, .binOp .eql 30 (.tmp 68) (.tmp 70) 30, 4, "law.go:38", #[⟨0, .data⟩, ⟨2, .data⟩], none⟩ ?_ (.inl ⟨by rfl, ?_⟩) hS ?_
  rotate_left
  · (intro w hSw; (try dsimp only at hSw); go_simp; (try with_reducible rfl))
  try simp only [Act.put, sb, s0, sz]
  refine takeW 4 ⟨some 72, .move (.tmp 71), 4, "law.go:38", #[⟨3, .data⟩, ⟨2, .chain⟩], none⟩ ?_ (.inl ⟨by rfl, ?_⟩) hS ?_
  rotate_left
  · (intro w hSw; (try dsimp only at hSw); go_simp; (try with_reducible rfl))
  try simp only [Act.put, sb, s0, sz]
  refine takeW 5 ⟨some 73, .move (.tmp 8), 27, "law.go:38", #[⟨4, .guard⟩], some (4, true)⟩ ?_ (.inl ⟨by rfl, ?_⟩) hS ?_
  rotate_left
  · (intro w hSw; (try dsimp only at hSw); go_simp; (try with_reducible rfl))
  try simp only [Act.put, sb, s0, sz]
  refine takeW 6 ⟨some 74, .move (.tmp 10), 27, "law.go:38", #[⟨4, .guard⟩], some (4, true)⟩ ?_ (.inl ⟨by rfl, ?_⟩) hS ?_
  rotate_left
  · (intro w hSw; (try dsimp only at hSw); go_simp; (try with_reducible rfl))
  try simp only [Act.put, sb, s0, sz]
  refine takeW 7 ⟨some 75, .binOp .eql 27 (.tmp 73) (.tmp 74) 27, 4, "law.go:38", #[⟨5, .data⟩, ⟨6, .data⟩, ⟨4, .guard⟩], some (4, true)⟩ ?_ (.inl ⟨by rfl, ?_⟩) hS ?_
  rotate_left
  · (intro w hSw; (try dsimp only at hSw); go_simp; (try with_reducible rfl))
  try simp only [Act.put, sb, s0, sz]
  refine takeW 8 ⟨some 76, .pick (.tmp 72) (.tmp 75) (.const (.bool false)), 4, "law.go:38", #[⟨4, .data⟩, ⟨7, .data⟩], none⟩ ?_ (.inl ⟨by rfl, ?_⟩) hS ?_
  rotate_left
  · (intro w hSw; (try dsimp only at hSw); go_simp; (try with_reducible rfl))
  try simp only [Act.put, sb, s0, sz]
  refine takeW 9 ⟨some 77, .move (.tmp 76), 4, "law.go:38", #[⟨8, .data⟩, ⟨4, .chain⟩], none⟩ ?_ (.inl ⟨by rfl, ?_⟩) hS ?_
  rotate_left
  · (intro w hSw; (try dsimp only at hSw); go_simp; (try with_reducible rfl))
  try simp only [Act.put, sb, s0, sz]
  refine wpAnyH_ready (rs := [10]) (by kernel_rfl) (by simp) ?_
  refine (AllReadyH.cons (o := { dst := some 78, op := Go.Op.call { callee := Go.Callee.value (Go.Operand.func 10), args := #[], argTypes := #[] }, type := 4, pos := "law.go:38", after := #[{ on := 9, ground := Go.Ground.chain }, { on := 9, ground := Go.Ground.guard }], guard := some (9, true) }) rfl (fun K hK => ?_) AllReadyH.nil)
  (go_simp; refine (wakes05_any (ht.cons.cons.cons.cons) hEa).mono ?_; rintro e wb ⟨v, rfl, rfl, hEb⟩)
  refine hK.out _ _ ⟨(atWm hEb (by repeat (first | exact List.Mem.head _ | refine List.Mem.tail _ ?_)) Tryd.isAgg30 Tryd.sizeOf30 rfl), (atWm hEb (by repeat (first | exact List.Mem.head _ | refine List.Mem.tail _ ?_)) Tryd.isAgg24 Tryd.sizeOf24 rfl)⟩ (fun hS => ?_)
  clear hK K
  try simp only [Act.put, sb, s0, sz]
  refine takeW 11 ⟨some 79, .pick (.tmp 77) (.tmp 78) (.const (.bool false)), 4, "law.go:38", #[⟨9, .data⟩, ⟨10, .data⟩], none⟩ ?_ (.inl ⟨by rfl, ?_⟩) hS ?_
  rotate_left
  · (intro w hSw; (try dsimp only at hSw); go_simp; (try with_reducible rfl))
  try simp only [Act.put, sb, s0, sz]
  refine takeW 12 ⟨some 4, .assign (.tmp 79), 4, "law.go:38", #[⟨11, .data⟩, ⟨10, .chain⟩, ⟨0, .phase⟩, ⟨1, .phase⟩, ⟨2, .phase⟩, ⟨3, .phase⟩, ⟨4, .phase⟩, ⟨5, .phase⟩, ⟨6, .phase⟩, ⟨7, .phase⟩, ⟨8, .phase⟩, ⟨9, .phase⟩, ⟨10, .phase⟩, ⟨11, .phase⟩], none⟩ ?_ (.inl ⟨by rfl, ?_⟩) hS ?_
  rotate_left
  · (intro w hSw; (try dsimp only at hSw); go_simp; (try with_reducible rfl))
  try simp only [Act.put, sb, s0, sz]
  refine wpAnyH_done (by kernel_rfl) ?_ _
  go_wp2
  go_ret
  exact ⟨_, rfl, rfl, hEb.tail.tail.tail.tail⟩

set_option maxRecDepth 100000 in
set_option maxHeartbeats 4000000 in
attribute [-go_sem] Instr.loadAt Go.run_equalIn_agg in
theorem SheetPuts_short {s : Sht} (hs : s.seq < 18446744073709551616) {b : List UInt8} (h1 : s.text.length ≤ 1000) (h2 : b.length ≤ 1000) (hlen : s.text.length ≤ 497) {l : List HProp} {w : World} (ht : Knows l Table) (hE : Ent l w) :
    Calls Tryd.prog 3 #[.agg #[.int .u64 s.seq, .bool s.last, .string ⟨s.text.toArray⟩], .string ⟨b.toArray⟩] w (Ret fun v w' => v = .bool true ∧ Ent l w') := by
  have hd : decide ((1000 : Int) < (s.text.length : Int)) = false := decide_eq_false (by omega)
  have hd2 : decide ((1000 : Int) < (b.length : Int)) = false := decide_eq_false (by omega)
  have Hs := SL.hid hs
  have H1 := SL.hid h1
  have H2 := SL.hid h2
  have hd3 : decide ((497 : Int) < (s.text.length : Int)) = false := decide_eq_false (by omega)
  have hd4 : decide ((s.text.length : Int) ≤ 497) = true := decide_eq_true (by omega)
  have Hlen := SL.hid hlen
  clear hlen
  clear hs h1 h2
  obtain ⟨sq, la, tt⟩ := s
  simp only at *
  go_enter Tryd.func3, Tryd.ntmps3
  go_wp2_with (first
    | go_skip
    | ((with_reducible (show Go.wpList _ _ _ (Go.Oper.mk _ (.box _ _) _ _ _ _ :: _) _ _)); refine wpl_box hE rfl rfl rfl ?_; clear hE; intro b1 w hE; simp only [Act.eval, Act.put, List.setIfInBounds_toArray, List.set_cons_zero, List.set_cons_succ, getD_lit, List.getD_cons_succ, List.getD_cons_zero, Value.cells] at hE)
    | ((with_reducible (show Go.wpList _ _ _ (Go.Oper.mk _ (.load 24 _) _ _ _ _ :: _) _ _)); refine wpl_loadW hE 0 rfl rfl rfl rfl Tryd.isAgg24 Tryd.sizeOf24 rfl ?_)
    | ((with_reducible (show Go.wpList _ _ _ (Go.Oper.mk _ (.load _ _) _ _ _ _ :: _) _ _)); (first | (refine wpl_load1 hE 0 rfl rfl rfl rfl (by simp [go_sem]) rfl ?_) | (refine wpl_load1 hE 1 rfl rfl rfl rfl (by simp [go_sem]) rfl ?_) | (refine wpl_load1 hE 2 rfl rfl rfl rfl (by simp [go_sem]) rfl ?_) | (refine wpl_load1 hE 3 rfl rfl rfl rfl (by simp [go_sem]) rfl ?_) | (refine wpl_load1 hE 4 rfl rfl rfl rfl (by simp [go_sem]) rfl ?_) | (refine wpl_load1 hE 5 rfl rfl rfl rfl (by simp [go_sem]) rfl ?_) | (refine wpl_load1 hE 6 rfl rfl rfl rfl (by simp [go_sem]) rfl ?_) | (refine wpl_load1 hE 7 rfl rfl rfl rfl (by simp [go_sem]) rfl ?_)))
    | (go_at_call 12; refine (of05_any ⟨sq, la, tt⟩ hE).mono ?_; clear hE; rintro e w2 ⟨v, rfl, rfl, hE⟩)
    | (go_at_call 11; refine (sPut_ok la Hs.out Hlen.out ht.cons hE).mono ?_; clear hE; rintro e w3 ⟨v, rfl, ap, cp, rfl, hE⟩))
  refine wp_region_held_drew (S := (fun w' => ((Instr.loadAt 9 (.pointer (some ⟨b1, 2, none⟩))).run Tryd.prog w' = .ok (.string ⟨tt.toArray⟩) w') ∧ ((Instr.loadAt 24 (.pointer (some ⟨b1, 0, none⟩))).run Tryd.prog w' = .ok (.agg #[.int .u64 sq, .bool la, .string ⟨tt.toArray⟩]) w') ∧ ((convert 26 9 (.slice ap (shP sq la tt).length cp)).run Tryd.prog w' = .ok (.string ⟨(shP sq la tt).toArray⟩) w'))) (by kernel_rfl) ⟨(atVm hE.drew (by repeat (first | exact List.Mem.head _ | refine List.Mem.tail _ ?_)) (by simp [go_sem]) rfl), (atWm hE.drew (by repeat (first | exact List.Mem.head _ | refine List.Mem.tail _ ?_)) Tryd.isAgg24 Tryd.sizeOf24 rfl), (conv_row hE.drew 0 rfl)⟩ (fun hS => ?_)
  refine takeW 0 ⟨some 27, .fieldAddr 24 (.tmp 2) 2, 0, "law.go:33", #[], none⟩ ?_ (.inl ⟨by rfl, ?_⟩) hS ?_
  rotate_left
  · (intro w hSw; (try dsimp only at hSw); go_simp; (try with_reducible rfl))
  try simp only [Act.put, sb, s0, sz]
  refine takeW 1 ⟨some 28, .load 9 (.tmp 27), 9, "law.go:33", #[⟨0, .data⟩], none⟩ ?_ (.inl ⟨by rfl, ?_⟩) hS ?_
  rotate_left
  · (intro w hSw; (try dsimp only at hSw); go_simp; (try with_reducible rfl))
  try simp only [Act.put, sb, s0, sz]
  refine takeW 2 ⟨some 29, .call { callee := .builtin .len, args := #[.tmp 28], argTypes := #[9] }, 3, "law.go:33", #[⟨1, .data⟩], none⟩ ?_ (.inl ⟨by rfl, ?_⟩) hS ?_
  rotate_left
  · (intro w hSw; (try dsimp only at hSw); go_simp; (try with_reducible rfl))
  try simp only [Act.put, sb, s0, sz]
  refine takeW 3 ⟨some 30, .binOp .gtr 3 (.tmp 29) (.const (.int .i64 497)) 3, 4, "law.go:33", #[⟨2, .data⟩], none⟩ ?_ (.inl ⟨by rfl, ?_⟩) hS ?_
  rotate_left
  · (intro w hSw; (try dsimp only at hSw); go_simp; (try with_reducible rfl))
  try simp only [Act.put, sb, s0, sz]
  refine takeW 4 ⟨some 31, .move (.tmp 30), 4, "law.go:33", #[⟨3, .data⟩], none⟩ ?_ (.inl ⟨by rfl, ?_⟩) hS ?_
  rotate_left
  · (intro w hSw; (try dsimp only at hSw); go_simp; (try with_reducible rfl))
  try simp only [Act.put, sb, s0, sz]
  refine takeW 5 ⟨some 32, .move (.tmp 5), 26, "law.go:33", #[⟨4, .guard⟩], some (4, true)⟩ undef (.inr ⟨by rfl, rfl⟩) hS ?_; try simp only [Act.put, sb, s0, sz]
  refine takeW 6 ⟨some 33, .call { callee := .builtin .len, args := #[.tmp 32], argTypes := #[26] }, 3, "law.go:33", #[⟨5, .data⟩, ⟨4, .guard⟩], some (4, true)⟩ undef (.inr ⟨by rfl, rfl⟩) hS ?_; try simp only [Act.put, sb, s0, sz]
  refine takeW 7 ⟨some 34, .binOp .neq 3 (.tmp 33) (.const (.int .i64 0)) 3, 4, "law.go:33", #[⟨6, .data⟩, ⟨4, .guard⟩], some (4, true)⟩ undef (.inr ⟨by rfl, rfl⟩) hS ?_; try simp only [Act.put, sb, s0, sz]
  refine takeW 8 ⟨some 35, .move (.tmp 34), 4, "law.go:33", #[⟨7, .data⟩, ⟨4, .chain⟩, ⟨4, .guard⟩], some (4, true)⟩ undef (.inr ⟨by rfl, rfl⟩) hS ?_; try simp only [Act.put, sb, s0, sz]
  refine takeW 9 ⟨some 36, .move (.tmp 6), 27, "law.go:33", #[⟨8, .guard⟩], some (8, false)⟩ undef (.inr ⟨by rfl, rfl⟩) hS ?_; try simp only [Act.put, sb, s0, sz]
  refine takeW 10 ⟨some 37, .binOp .neq 27 (.tmp 36) (.const (.int .i64 6)) 27, 4, "law.go:33", #[⟨9, .data⟩, ⟨8, .guard⟩], some (8, false)⟩ undef (.inr ⟨by rfl, rfl⟩) hS ?_; try simp only [Act.put, sb, s0, sz]
  refine takeW 11 ⟨some 38, .pick (.tmp 35) (.const (.bool true)) (.tmp 37), 4, "law.go:33", #[⟨8, .data⟩, ⟨10, .data⟩, ⟨4, .guard⟩], some (4, true)⟩ undef (.inr ⟨by rfl, rfl⟩) hS ?_; try simp only [Act.put, sb, s0, sz]
  refine takeW 12 ⟨some 39, .pick (.tmp 31) (.tmp 38) (.const (.bool false)), 4, "law.go:33", #[⟨4, .data⟩, ⟨11, .data⟩], none⟩ ?_ (.inl ⟨by rfl, ?_⟩) hS ?_
  rotate_left
  · (intro w hSw; (try dsimp only at hSw); go_simp; (try with_reducible rfl))
  try simp only [Act.put, sb, s0, sz]
  refine takeW 13 ⟨some 40, .move (.tmp 39), 4, "law.go:33", #[⟨12, .data⟩, ⟨8, .chain⟩], none⟩ ?_ (.inl ⟨by rfl, ?_⟩) hS ?_
  rotate_left
  · (intro w hSw; (try dsimp only at hSw); go_simp; (try with_reducible rfl))
  try simp only [Act.put, sb, s0, sz]
  refine takeW 14 ⟨some 41, .fieldAddr 24 (.tmp 2) 2, 0, "law.go:33", #[⟨13, .guard⟩], some (13, false)⟩ ?_ (.inl ⟨by rfl, ?_⟩) hS ?_
  rotate_left
  · (intro w hSw; (try dsimp only at hSw); go_simp; (try with_reducible rfl))
  try simp only [Act.put, sb, s0, sz]
  refine takeW 15 ⟨some 42, .load 9 (.tmp 41), 9, "law.go:33", #[⟨14, .data⟩, ⟨13, .guard⟩], some (13, false)⟩ ?_ (.inl ⟨by rfl, ?_⟩) hS ?_
  rotate_left
  · (intro w hSw; (try dsimp only at hSw); go_simp; (try with_reducible rfl))
  try simp only [Act.put, sb, s0, sz]
  refine takeW 16 ⟨some 43, .call { callee := .builtin .len, args := #[.tmp 42], argTypes := #[9] }, 3, "law.go:33", #[⟨15, .data⟩, ⟨13, .guard⟩], some (13, false)⟩ ?_ (.inl ⟨by rfl, ?_⟩) hS ?_
  rotate_left
  · (intro w hSw; (try dsimp only at hSw); go_simp; (try with_reducible rfl))
  try simp only [Act.put, sb, s0, sz]
  refine takeW 17 ⟨some 44, .binOp .leq 3 (.tmp 43) (.const (.int .i64 497)) 3, 4, "law.go:33", #[⟨16, .data⟩, ⟨13, .guard⟩], some (13, false)⟩ ?_ (.inl ⟨by rfl, ?_⟩) hS ?_
  rotate_left
  · (intro w hSw; (try dsimp only at hSw); go_simp; (try with_reducible rfl))
  try simp only [Act.put, sb, s0, sz]
  refine takeW 18 ⟨some 45, .move (.tmp 44), 4, "law.go:33", #[⟨17, .data⟩, ⟨13, .chain⟩, ⟨13, .guard⟩], some (13, false)⟩ ?_ (.inl ⟨by rfl, ?_⟩) hS ?_
  rotate_left
  · (intro w hSw; (try dsimp only at hSw); go_simp; (try with_reducible rfl))
  try simp only [Act.put, sb, s0, sz]
  refine takeW 19 ⟨some 46, .move (.tmp 5), 26, "law.go:33", #[⟨18, .guard⟩], some (18, true)⟩ ?_ (.inl ⟨by rfl, ?_⟩) hS ?_
  rotate_left
  · (intro w hSw; (try dsimp only at hSw); go_simp; (try with_reducible rfl))
  try simp only [Act.put, sb, s0, sz]
  refine takeW 20 ⟨some 47, .convert 26 9 (.tmp 46), 9, "law.go:33", #[⟨19, .data⟩, ⟨18, .guard⟩], some (18, true)⟩ ?_ (.inl ⟨by rfl, ?_⟩) hS ?_
  rotate_left
  · (intro w hSw; (try dsimp only at hSw); go_simp; (try with_reducible rfl))
  try simp only [Act.put, sb, s0, sz]
  refine takeW 21 ⟨some 48, .load 24 (.tmp 2), 24, "law.go:33", #[⟨18, .guard⟩], some (18, true)⟩ ?_ (.inl ⟨by rfl, ?_⟩) hS ?_
  rotate_left
  · (intro w hSw; (try dsimp only at hSw); go_simp; (try with_reducible rfl))
  try simp only [Act.put, sb, s0, sz]
  refine wpAnyH_ready (rs := [22]) (by kernel_rfl) (by simp) ?_
  refine (AllReadyH.cons (o := { dst := some 49, op := Go.Op.call { callee := Go.Callee.value (Go.Operand.func 13), args := #[Go.Operand.tmp 48], argTypes := #[24] }, type := 9, pos := "law.go:33", after := #[{ on := 21, ground := Go.Ground.data }, { on := 18, ground := Go.Ground.chain }, { on := 18, ground := Go.Ground.guard }], guard := some (18, true) }) rfl (fun K hK => ?_) AllReadyH.nil)
  (go_simp; refine (rPut_ok la Hs.out Hlen.out hE.drew).mono ?_; rintro e w4 ⟨v, rfl, rfl, hE4⟩)
  refine hK.out _ _ ⟨(atVm hE4 (by repeat (first | exact List.Mem.head _ | refine List.Mem.tail _ ?_)) (by simp [go_sem]) rfl), (atWm hE4 (by repeat (first | exact List.Mem.head _ | refine List.Mem.tail _ ?_)) Tryd.isAgg24 Tryd.sizeOf24 rfl), (conv_row hE4 0 rfl)⟩ (fun hS => ?_)
  clear hK K
  try simp only [Act.put, sb, s0, sz]
  refine takeW 23 ⟨some 50, .binOp .neq 9 (.tmp 47) (.tmp 49) 9, 4, "law.go:33", #[⟨20, .data⟩, ⟨22, .data⟩, ⟨18, .guard⟩], some (18, true)⟩ ?_ (.inl ⟨by rfl, ?_⟩) hS ?_
  rotate_left
  · (intro w hSw; (try dsimp only at hSw); go_simp; (try with_reducible rfl))
  try simp only [Act.put, sb, s0, sz]
  refine takeW 24 ⟨some 51, .move (.tmp 50), 4, "law.go:33", #[⟨23, .data⟩, ⟨22, .chain⟩, ⟨18, .guard⟩], some (18, true)⟩ ?_ (.inl ⟨by rfl, ?_⟩) hS ?_
  rotate_left
  · (intro w hSw; (try dsimp only at hSw); go_simp; (try with_reducible rfl))
  try simp only [Act.put, sb, s0, sz]
  refine takeW 25 ⟨some 52, .move (.tmp 6), 27, "law.go:33", #[⟨24, .guard⟩], some (24, false)⟩ ?_ (.inl ⟨by rfl, ?_⟩) hS ?_
  rotate_left
  · (intro w hSw; (try dsimp only at hSw); go_simp; (try with_reducible rfl))
  try simp only [Act.put, sb, s0, sz]
  refine takeW 26 ⟨some 53, .binOp .neq 27 (.tmp 52) (.const (.int .i64 0)) 27, 4, "law.go:33", #[⟨25, .data⟩, ⟨24, .guard⟩], some (24, false)⟩ ?_ (.inl ⟨by rfl, ?_⟩) hS ?_
  rotate_left
  · (intro w hSw; (try dsimp only at hSw); go_simp; (try with_reducible rfl))
  try simp only [Act.put, sb, s0, sz]
  refine takeW 27 ⟨some 54, .pick (.tmp 51) (.const (.bool true)) (.tmp 53), 4, "law.go:33", #[⟨24, .data⟩, ⟨26, .data⟩, ⟨18, .guard⟩], some (18, true)⟩ ?_ (.inl ⟨by rfl, ?_⟩) hS ?_
  rotate_left
  · (intro w hSw; (try dsimp only at hSw); go_simp; (try with_reducible rfl))
  try simp only [Act.put, sb, s0, sz]
  refine takeW 28 ⟨some 55, .pick (.tmp 45) (.tmp 54) (.const (.bool false)), 4, "law.go:33", #[⟨18, .data⟩, ⟨27, .data⟩, ⟨13, .guard⟩], some (13, false)⟩ ?_ (.inl ⟨by rfl, ?_⟩) hS ?_
  rotate_left
  · (intro w hSw; (try dsimp only at hSw); go_simp; (try with_reducible rfl))
  try simp only [Act.put, sb, s0, sz]
  refine takeW 29 ⟨some 56, .pick (.tmp 40) (.const (.bool true)) (.tmp 55), 4, "law.go:33", #[⟨13, .data⟩, ⟨28, .data⟩], none⟩ ?_ (.inl ⟨by rfl, ?_⟩) hS ?_
  rotate_left
  · (intro w hSw; (try dsimp only at hSw); go_simp; (try with_reducible rfl))
  try simp only [Act.put, sb, s0, sz]
  refine wpAnyH_done (by kernel_rfl) ?_ _
  have hEr := hE4.tail
  clear hE4
  generalize hwr : w4 = wr at hEr ⊢
  clear hwr

  obtain ⟨e1, e2⟩ := res_same b
  have E1 := SL.hid e1
  have E2 := SL.hid e2
  clear e1 e2
  have hE4 : Ent (pt b1 (.cells #[.int .u64 sq, .bool la, .string ⟨tt.toArray⟩] 24) :: l) wr := hEr
  clear hEr
  have HT : ∀ {l' : List HProp} {w : World} {ao : Option Addr} {c : Nat}, Knows l' Table → Knows l' (reads (.slice ao b.length c) b.length (bvals b)) → Ent l' w → Calls Tryd.prog 14 #[.slice ao b.length c] w (Ret fun v w' => v = .tuple #[shV (resS b), .int .i64 (resSE b)] ∧ Ent l' w') := fun h1 h2 h3 => sTake_any (by have := H2.out; omega) h1 h2 h3
  have HR : ∀ {l : List HProp} {w : World}, Ent l w → Calls Tryd.prog 15 #[.string ⟨b.toArray⟩] w (Ret fun v w' => v = .tuple #[shV (resS b), .int .i64 (resSE b)] ∧ Ent l w') := fun h => by
    have h := rTake_any (b := b) (by have := H2.out; omega) h
    rw [← E1.out, ← E2.out] at h
    exact h
  obtain ⟨z, hz⟩ : ∃ z, resS b = z := ⟨_, rfl⟩
  obtain ⟨z1, z2, z3⟩ := z
  rw [hz] at HT HR
  simp only [shV] at HT HR
  generalize resSE b = er at *
  have hcm : ∀ w, (Op.equalIn 10000 30 (.agg #[.int .u64 z1, .bool z2, .string ⟨z3.toArray⟩]) (.agg #[.int .u64 z1, .bool z2, .string ⟨z3.toArray⟩])).run Tryd.prog w = .ok true w := fun w => by
    have := eqSht ⟨z1, z2, z3⟩ ⟨z1, z2, z3⟩ w
    rw [beq_self_eq_true] at this
    exact this
  go_wp2_with (first
    | go_skip
    | ((with_reducible (show Go.wpList _ _ _ (Go.Oper.mk _ (.convert _ _ _) _ _ _ _ :: _) _ _)); refine wpl_strB hE4 rfl rfl (ys := b) rfl ?_; clear hE4; intro bv cv w5 hE5)
    | (go_at_call 14; refine (HT (ht.cons.cons) (fun _ h => h.views 0 rfl) hE5).mono ?_; clear hE5 HT; rintro e w6 ⟨v, rfl, rfl, hE⟩)
    | ((with_reducible (show Go.wpList _ _ _ (Go.Oper.mk _ (.alloc 30) _ _ _ _ :: _) _ _)); refine wpl_allocN hE rfl rfl (n := 3) zs_sht ?_; clear hE; intro b7 cs w7 hq hE)
    | ((with_reducible (show Go.wpList _ _ _ (Go.Oper.mk _ (.store 30 _ _) _ _ _ _ :: _) _ _)); refine wpl_storeN hE 0 rfl rfl rfl rfl (xs := [.int .u64 z1, .bool z2, .string ⟨z3.toArray⟩]) rfl Tryd.sizeOf30 rfl (by simp [Value.oneCell']) hq ?_; clear hE hq; intro w8 hE; simp only [List.set_cons_zero] at hE)
    | (go_at_call 15; refine (HR hE).mono ?_; clear hE HR; rintro e w9 ⟨v, rfl, rfl, hE⟩)
    | ((with_reducible (show Go.wpList _ _ _ (Go.Oper.mk _ (.alloc 24) _ _ _ _ :: _) _ _)); refine wpl_allocN hE rfl rfl (n := 3) zs_rsht ?_; clear hE; intro b9 cs w10 hq hE)
    | ((with_reducible (show Go.wpList _ _ _ (Go.Oper.mk _ (.store 24 _ _) _ _ _ _ :: _) _ _)); refine wpl_storeN hE 0 rfl rfl rfl rfl (xs := [.int .u64 z1, .bool z2, .string ⟨z3.toArray⟩]) rfl Tryd.sizeOf24 rfl (by simp [Value.oneCell']) hq ?_; clear hE hq; intro w11 hE; simp only [List.set_cons_zero] at hE))
  refine wp_region_held_drew (S := (fun w' => ((Instr.loadAt 30 (.pointer (some ⟨b7, 0, none⟩))).run Tryd.prog w' = .ok (.agg #[.int .u64 z1, .bool z2, .string ⟨z3.toArray⟩]) w') ∧ ((Instr.loadAt 24 (.pointer (some ⟨b9, 0, none⟩))).run Tryd.prog w' = .ok (.agg #[.int .u64 z1, .bool z2, .string ⟨z3.toArray⟩]) w'))) (by kernel_rfl) ⟨(atWm hE.drew (by repeat (first | exact List.Mem.head _ | refine List.Mem.tail _ ?_)) Tryd.isAgg30 Tryd.sizeOf30 rfl), (atWm hE.drew (by repeat (first | exact List.Mem.head _ | refine List.Mem.tail _ ?_)) Tryd.isAgg24 Tryd.sizeOf24 rfl)⟩ (fun hS => ?_)
  refine takeW 0 ⟨some 68, .load 30 (.tmp 7), 30, "law.go:38", #[], none⟩ ?_ (.inl ⟨by rfl, ?_⟩) hS ?_
  rotate_left
  · (intro w hSw; (try dsimp only at hSw); go_simp; (try with_reducible rfl))
  try simp only [Act.put, sb, s0, sz]
  refine takeW 1 ⟨some 69, .load 24 (.tmp 9), 24, "law.go:38", #[], none⟩ ?_ (.inl ⟨by rfl, ?_⟩) hS ?_
  rotate_left
  · (intro w hSw; (try dsimp only at hSw); go_simp; (try with_reducible rfl))
  try simp only [Act.put, sb, s0, sz]
  refine wpAnyH_ready (rs := [2]) (by kernel_rfl) (by simp) ?_
  refine (AllReadyH.cons (o := { dst := some 70, op := Go.Op.call { callee := Go.Callee.value (Go.Operand.func 12), args := #[Go.Operand.tmp 69], argTypes := #[24] }, type := 30, pos := "law.go:38", after := #[{ on := 1, ground := Go.Ground.data }], guard := none }) rfl (fun K hK => ?_) AllReadyH.nil)
  (go_simp; refine (of05_any ⟨z1, z2, z3⟩ hE.drew).mono ?_; rintro e wa ⟨v, rfl, rfl, hEa⟩)
  refine hK.out _ _ ⟨(atWm hEa (by repeat (first | exact List.Mem.head _ | refine List.Mem.tail _ ?_)) Tryd.isAgg30 Tryd.sizeOf30 rfl), (atWm hEa (by repeat (first | exact List.Mem.head _ | refine List.Mem.tail _ ?_)) Tryd.isAgg24 Tryd.sizeOf24 rfl)⟩ (fun hS => ?_)
  clear hK K
  try simp only [Act.put, sb, s0, sz]
  refine takeW 3 ⟨some 71, .binOp .eql 30 (.tmp 68) (.tmp 70) 30, 4, "law.go:38", #[⟨0, .data⟩, ⟨2, .data⟩], none⟩ ?_ (.inl ⟨by rfl, ?_⟩) hS ?_
  rotate_left
  · (intro w hSw; (try dsimp only at hSw); go_simp; (try with_reducible rfl))
  try simp only [Act.put, sb, s0, sz]
  refine takeW 4 ⟨some 72, .move (.tmp 71), 4, "law.go:38", #[⟨3, .data⟩, ⟨2, .chain⟩], none⟩ ?_ (.inl ⟨by rfl, ?_⟩) hS ?_
  rotate_left
  · (intro w hSw; (try dsimp only at hSw); go_simp; (try with_reducible rfl))
  try simp only [Act.put, sb, s0, sz]
  refine takeW 5 ⟨some 73, .move (.tmp 8), 27, "law.go:38", #[⟨4, .guard⟩], some (4, true)⟩ ?_ (.inl ⟨by rfl, ?_⟩) hS ?_
  rotate_left
  · (intro w hSw; (try dsimp only at hSw); go_simp; (try with_reducible rfl))
  try simp only [Act.put, sb, s0, sz]
  refine takeW 6 ⟨some 74, .move (.tmp 10), 27, "law.go:38", #[⟨4, .guard⟩], some (4, true)⟩ ?_ (.inl ⟨by rfl, ?_⟩) hS ?_
  rotate_left
  · (intro w hSw; (try dsimp only at hSw); go_simp; (try with_reducible rfl))
  try simp only [Act.put, sb, s0, sz]
  refine takeW 7 ⟨some 75, .binOp .eql 27 (.tmp 73) (.tmp 74) 27, 4, "law.go:38", #[⟨5, .data⟩, ⟨6, .data⟩, ⟨4, .guard⟩], some (4, true)⟩ ?_ (.inl ⟨by rfl, ?_⟩) hS ?_
  rotate_left
  · (intro w hSw; (try dsimp only at hSw); go_simp; (try with_reducible rfl))
  try simp only [Act.put, sb, s0, sz]
  refine takeW 8 ⟨some 76, .pick (.tmp 72) (.tmp 75) (.const (.bool false)), 4, "law.go:38", #[⟨4, .data⟩, ⟨7, .data⟩], none⟩ ?_ (.inl ⟨by rfl, ?_⟩) hS ?_
  rotate_left
  · (intro w hSw; (try dsimp only at hSw); go_simp; (try with_reducible rfl))
  try simp only [Act.put, sb, s0, sz]
  refine takeW 9 ⟨some 77, .move (.tmp 76), 4, "law.go:38", #[⟨8, .data⟩, ⟨4, .chain⟩], none⟩ ?_ (.inl ⟨by rfl, ?_⟩) hS ?_
  rotate_left
  · (intro w hSw; (try dsimp only at hSw); go_simp; (try with_reducible rfl))
  try simp only [Act.put, sb, s0, sz]
  refine wpAnyH_ready (rs := [10]) (by kernel_rfl) (by simp) ?_
  refine (AllReadyH.cons (o := { dst := some 78, op := Go.Op.call { callee := Go.Callee.value (Go.Operand.func 10), args := #[], argTypes := #[] }, type := 4, pos := "law.go:38", after := #[{ on := 9, ground := Go.Ground.chain }, { on := 9, ground := Go.Ground.guard }], guard := some (9, true) }) rfl (fun K hK => ?_) AllReadyH.nil)
  (go_simp; refine (wakes05_any (ht.cons.cons.cons.cons) hEa).mono ?_; rintro e wb ⟨v, rfl, rfl, hEb⟩)
  refine hK.out _ _ ⟨(atWm hEb (by repeat (first | exact List.Mem.head _ | refine List.Mem.tail _ ?_)) Tryd.isAgg30 Tryd.sizeOf30 rfl), (atWm hEb (by repeat (first | exact List.Mem.head _ | refine List.Mem.tail _ ?_)) Tryd.isAgg24 Tryd.sizeOf24 rfl)⟩ (fun hS => ?_)
  clear hK K
  try simp only [Act.put, sb, s0, sz]
  refine takeW 11 ⟨some 79, .pick (.tmp 77) (.tmp 78) (.const (.bool false)), 4, "law.go:38", #[⟨9, .data⟩, ⟨10, .data⟩], none⟩ ?_ (.inl ⟨by rfl, ?_⟩) hS ?_
  rotate_left
  · (intro w hSw; (try dsimp only at hSw); go_simp; (try with_reducible rfl))
  try simp only [Act.put, sb, s0, sz]
  refine takeW 12 ⟨some 4, .assign (.tmp 79), 4, "law.go:38", #[⟨11, .data⟩, ⟨10, .chain⟩, ⟨0, .phase⟩, ⟨1, .phase⟩, ⟨2, .phase⟩, ⟨3, .phase⟩, ⟨4, .phase⟩, ⟨5, .phase⟩, ⟨6, .phase⟩, ⟨7, .phase⟩, ⟨8, .phase⟩, ⟨9, .phase⟩, ⟨10, .phase⟩, ⟨11, .phase⟩], none⟩ ?_ (.inl ⟨by rfl, ?_⟩) hS ?_
  rotate_left
  · (intro w hSw; (try dsimp only at hSw); go_simp; (try with_reducible rfl))
  try simp only [Act.put, sb, s0, sz]
  refine wpAnyH_done (by kernel_rfl) ?_ _
  go_wp2
  go_ret
  exact ⟨_, rfl, rfl, hEb.tail.tail.tail.tail⟩

theorem SheetPuts_any {s : Sht} (hs : s.seq < 18446744073709551616) (b : List UInt8) {l : List HProp} {w : World} (ht : Knows l Table) (hE : Ent l w) :
    Calls Tryd.prog 3 #[.agg #[.int .u64 s.seq, .bool s.last, .string ⟨s.text.toArray⟩], .string ⟨b.toArray⟩] w (Ret fun v w' => v = .bool true ∧ Ent l w') := by
  by_cases hg : 1000 < s.text.length ∨ 1000 < b.length
  · exact SheetPuts_great hg ht hE
  · by_cases hl : 497 < s.text.length
    · exact SheetPuts_long hs (by omega) (by omega) hl ht hE
    · exact SheetPuts_short hs (by omega) (by omega) (by omega) ht hE
end Go.Proofs.YtdpfigkjkjjedaaDoor
namespace Go.Proofs.YtdpfigkjkjjedaaDoor
open Go.RowKit Go.SL Go.ChangeShapes Go.WideShapes Go.Deep
section
variable {H : Type} {enc : TypeId × Value → H} {w : World} {held : Bool}

theorem trod_u64 {fuel : Nat} {cs : List Value} {y : DataW H × List MemPlace} (h : DataW.trod enc Tryd.prog w 0 (fun _ => true) held fuel 22 cs = some y) : ∃ n : Nat, n < 18446744073709551616 ∧ cs = [.int .u64 n] := by
  obtain ⟨n, e, _, hw⟩ := DataW.trod_int Tryd.underlying22 h
  have b : 0 ≤ n ∧ n ≤ 18446744073709551615 := by simpa [Lit.wf, IntKind.min, IntKind.max, IntKind.signed, IntKind.bits] using hw
  exact ⟨n.toNat, by omega, by rw [e, Int.toNat_of_nonneg b.1]⟩
set_option maxRecDepth 100000 in
theorem open_sht {r : Reach} {b0 : Nat} {v : Value} {d : DataW H} {ps : List MemPlace} (hval : Value.okWide Tryd.prog w r b0 24 v) (h : DataW.Trod enc Tryd.prog w 0 (fun _ => true) held 24 v d ps) :
    ∃ s : Sht, s.seq < 18446744073709551616 ∧ v = .agg #[.int .u64 s.seq, .bool s.last, .string ⟨s.text.toArray⟩] := by
  obtain ⟨v0, v1, v2, y0, y1, y2, n, rfl, _, _, h0, h1, h2⟩ := Go.Joins.open_agg3 Tryd.underlying24 (by kernel_rfl) (by kernel_rfl) hval h
  obtain ⟨a, ha, q0⟩ := trod_u64 h0
  obtain ⟨b, q1, _⟩ := DataW.trod_bool Tryd.underlying4 h1
  obtain ⟨c, q2, _, _⟩ := DataW.trod_string Tryd.underlying9 h2
  simp only [List.cons.injEq, and_true] at q0 q1 q2
  subst q0 q1 q2
  exact ⟨⟨a, b, c.data.toList⟩, ha, rfl⟩
end
end Go.Proofs.YtdpfigkjkjjedaaDoor
namespace Go.Proofs.YtdpfigkjkjjedaaDoor
open Go.RowKit Go.SL

theorem Need_neg (n : Nat) (hn : n ≤ 1000000) (w : World) : Calls Tryd.prog 18 #[.int .i64 (-(n : Int))] w (fun e w' => e = .returned (.int .i64 1) ∧ w = w') := by
  have h1 : max (0 : Int) (-(n : Int)) = 0 := by omega
  go_enter Tryd.func18, Tryd.ntmps18
  go_wp2
  go_ret
  exact ⟨by first | rfl | simp, rfl⟩

abbrev rowRs (ao : Option Addr) (c : Nat) (xs : List Sht) : HProp := row 24 3 (.slice ao xs.length c) xs.length (xs.flatMap shC)
theorem info_rsht : elemInfo Tryd.prog 24 = some (some 3, 3, 32) := by kernel_rfl
def RcRel (seq : Nat) (t : List UInt8) (l : List HProp) (o s x : Value) (wr : World) : Prop :=
  ∃ (k : Nat) (ao : Option Addr) (c : Nat) (pre : List Sht), k < needN t.length ∧ pre = (List.range k).map (pieceAt seq t) ∧ s = .int .u64 ((seq + k) % 18446744073709551616 : Nat) ∧ x = .string ⟨(t.drop (497 * k)).toArray⟩ ∧ o = .slice ao pre.length c ∧ Ent (rowRs ao c pre :: l) wr
def strLen (v : Value) : Nat := match v with | .string s => s.size | _ => 0
set_option maxRecDepth 100000 in
set_option maxHeartbeats 4000000 in
theorem rCut_any {seq : Nat} (hs : seq < 18446744073709551616) {t : List UInt8} (ht : t.length ≤ 1000000) {l : List HProp} {w : World} (hE : Ent l w) :
    Calls Tryd.prog 17 #[.int .u64 seq, .string ⟨t.toArray⟩] w (Ret fun v w' => ∃ ao c, v = .slice ao (cutL seq t).length c ∧ Ent (rowRs ao c (cutL seq t) :: l) w') := by
  go_enter Tryd.func17, Tryd.ntmps17
  go_wp2
  go_loopw [5, 0, 1] (fun o s x wr => RcRel seq t l o s x wr) (fun _ _ x _ => strLen x)
  case atStart => exact ⟨0, none, 0, [], needN_pos _, rfl, by rw [Nat.add_zero, Nat.mod_eq_of_lt hs], by simp, rfl, hE.nil _ _⟩
  case round =>
    clear hE
    obtain ⟨k, ao, c, pre, hk, hpre, rfl, rfl, rfl, hE⟩ := hrel
    have Hm := SL.hid (need_more hk)
    have hcl : (t.drop (497 * k)).length = t.length - 497 * k := List.length_drop
    have hcl2 : (t.drop (497 * k)).length ≤ 1000000 := by omega
    have hsq : (seq + k) % 18446744073709551616 < 18446744073709551616 := by omega
    have hpl : pre.length ≤ 1000000 := by rw [hpre]; simp; unfold needN at hk; omega
    by_cases hmore : k + 1 < needN t.length
    · have Hp := SL.hid (show pre ++ [⟨(seq + k) % 18446744073709551616, false, (t.drop (497 * k)).take 497⟩] = (List.range (k + 1)).map (pieceAt seq t) by rw [hpre, ← piece_more hmore, pieces_snoc])
      have hlt : decide ((497 : Int) < ((t.drop (497 * k)).length : Int)) = true := decide_eq_true (by have := Hm.out.1 hmore; omega)
      have hs1 : ∀ w, (Instr.sliceAt 9 (.string ⟨(t.drop (497 * k)).toArray⟩) none (some (.int .i64 497)) none).run Tryd.prog w = .ok (.string ⟨((t.drop (497 * k)).take 497).toArray⟩) w := fun w => run_slice_sHi (P := Tryd.prog) Tryd.underlying9 (bs := t.drop (497 * k)) (k := 497) (by have := Hm.out.1 hmore; omega) w
      have hs2 : ∀ w, (Instr.sliceAt 9 (.string ⟨(t.drop (497 * k)).toArray⟩) (some (.int .i64 497)) none none).run Tryd.prog w = .ok (.string ⟨((t.drop (497 * k)).drop 497).toArray⟩) w := fun w => run_slice_sLo (P := Tryd.prog) Tryd.underlying9 (bs := t.drop (497 * k)) (k := 497) (by have := Hm.out.1 hmore; omega) w
      have hsn := seq_next _ hsq
      have Hx := SL.hid (show ((seq + k) % 18446744073709551616 + 1) % 18446744073709551616 = (seq + (k + 1)) % 18446744073709551616 by omega)
      have Hd := SL.hid (show (t.drop (497 * k)).drop 497 = t.drop (497 * (k + 1)) by rw [List.drop_drop]; congr 1)
      have Hcd := SL.hid (show ((t.drop (497 * k)).drop 497).length < (t.drop (497 * k)).length by rw [List.length_drop]; have := Hm.out.1 hmore; omega)
      have Hpre := SL.hid hpre
      have Hpl := SL.hid hpl
      clear hcl hpre hpl
      generalize (seq + k) % 18446744073709551616 = sq at *
      generalize (sq + 1) % 18446744073709551616 = sq' at *
      generalize t.drop (497 * k) = cur at *
      generalize cur.take 497 = p at *
      generalize cur.drop 497 = cur' at *
      go_wp2_with (first
        | go_skip
        | ((with_reducible (show Go.wpList _ _ _ (Go.Oper.mk _ (.buildSlice _ _ _) _ _ _ _ :: _) _ _)); refine wpl_build1 hE rfl rfl (xs := [.int .u64 sq, .bool false, .string ⟨p.toArray⟩]) rfl Tryd.underlying38 zs_rsht Tryd.sizeOf24 (by decide) (by decide) rfl ?_; clear hE; intro b9 w3 hE)
        | ((with_reducible (show Go.wpList _ _ _ (Go.Oper.mk _ (.call { callee := .builtin .append, args := _, argTypes := _ }) _ _ _ _ :: _) _ _)); refine wpl_appendG hE 1 rfl rfl rfl rfl rfl Tryd.underlying38 info_rsht (by decide) (m := 1) (news := shC ⟨sq, false, p⟩) (reads_pt hE 0 rfl (off := 0) (fun j u hu => by rw [Nat.zero_add, List.getElem?_toArray]; exact hu)) rfl (shC_one _) (by have := Hpl.out; omega) (by have := Hpl.out; omega) ?_; clear hE; intro ao' c' w6 hE; simp only [List.set_cons_zero, List.set_cons_succ] at hE))
      go_roundw
      case rel =>
        have e1 : (pre ++ [(⟨sq, false, p⟩ : Sht)]).length = pre.length + 1 := by simp
        have e2 : (pre ++ [(⟨sq, false, p⟩ : Sht)]).flatMap shC = pre.flatMap shC ++ shC ⟨sq, false, p⟩ := by simp
        refine ⟨k + 1, ao', c', pre ++ [⟨sq, false, p⟩], hmore, Hp.out, by rw [← Hx.out], by rw [← Hd.out], by rw [e1], ?_⟩
        simp only [rowRs, e1, e2]
        exact hE.tail
      case measure => simp only [strLen, bytes_size]; exact Hcd.out
    · have hlast : k + 1 = needN t.length := by omega
      have Hp := SL.hid (show pre ++ [⟨(seq + k) % 18446744073709551616, true, t.drop (497 * k)⟩] = cutL seq t by rw [hpre, ← piece_last hlast, pieces_snoc, cutL, hlast])
      have hlt : decide ((497 : Int) < ((t.drop (497 * k)).length : Int)) = false := decide_eq_false (by have := Hm.out; omega)
      have Hpl := SL.hid hpl
      clear hcl hpre hpl
      generalize (seq + k) % 18446744073709551616 = sq at *
      generalize t.drop (497 * k) = cur at *
      go_wp2_with (first
        | go_skip
        | ((with_reducible (show Go.wpList _ _ _ (Go.Oper.mk _ (.buildSlice _ _ _) _ _ _ _ :: _) _ _)); refine wpl_build1 hE rfl rfl (xs := [.int .u64 sq, .bool true, .string ⟨cur.toArray⟩]) rfl Tryd.underlying38 zs_rsht Tryd.sizeOf24 (by decide) (by decide) rfl ?_; clear hE; intro b9 w3 hE)
        | ((with_reducible (show Go.wpList _ _ _ (Go.Oper.mk _ (.call { callee := .builtin .append, args := _, argTypes := _ }) _ _ _ _ :: _) _ _)); refine wpl_appendG hE 1 rfl rfl rfl rfl rfl Tryd.underlying38 info_rsht (by decide) (m := 1) (news := shC ⟨sq, true, cur⟩) (reads_pt hE 0 rfl (off := 0) (fun j u hu => by rw [Nat.zero_add, List.getElem?_toArray]; exact hu)) rfl (shC_one _) (by have := Hpl.out; omega) (by have := Hpl.out; omega) ?_; clear hE; intro ao' c' w6 hE; simp only [List.set_cons_zero, List.set_cons_succ] at hE))
      go_ret
      have e1 : (pre ++ [(⟨sq, true, cur⟩ : Sht)]).length = pre.length + 1 := by simp
      have e2 : (pre ++ [(⟨sq, true, cur⟩ : Sht)]).flatMap shC = pre.flatMap shC ++ shC ⟨sq, true, cur⟩ := by simp
      refine ⟨_, rfl, ao', c', ?_, ?_⟩
      · rw [← Hp.out, e1]; rfl
      · rw [← Hp.out]
        simp only [rowRs, e1, e2]
        exact hE.tail
end Go.Proofs.YtdpfigkjkjjedaaDoor
namespace Go.Proofs.YtdpfigkjkjjedaaDoor
open Go.RowKit Go.SL

/-- a sheet of a row, loaded whole -/
theorem load_row {e t : TypeId} (hA : ∀ w, (isAgg t).run Tryd.prog w = .ok true w) (hn : ∀ w, (Go.sizeOf t).run Tryd.prog w = .ok 3 w) {b off c : Nat} {xs : List Sht} {l : List HProp} {w : World} (hE : Ent l w) (hm : row e 3 (.slice (some ⟨b, off, none⟩) xs.length c) xs.length (xs.flatMap shC) ∈ l) {k : Nat} (hk : k < xs.length) :
    (Instr.loadAt t (.pointer (some ⟨b, off + k * 3, none⟩))).run Tryd.prog w = .ok (.agg #[.int .u64 xs[k].seq, .bool xs[k].last, .string ⟨xs[k].text.toArray⟩]) w := by
  obtain ⟨i, hi⟩ := List.getElem?_of_mem hm
  obtain ⟨b', off', e, h⟩ := sht_at (reads_row hE i hi) hk
  cases e
  exact atCells hA hn (shC xs[k]) rfl h
theorem load_reads {t : TypeId} (hA : ∀ w, (isAgg t).run Tryd.prog w = .ok true w) (hn : ∀ w, (Go.sizeOf t).run Tryd.prog w = .ok 3 w) {b off c : Nat} {xs : List Sht} {w : World} (hr : reads (.slice (some ⟨b, off, none⟩) xs.length c) xs.length (xs.flatMap shC) w) {k : Nat} (hk : k < xs.length) :
    (Instr.loadAt t (.pointer (some ⟨b, off + k * 3, none⟩))).run Tryd.prog w = .ok (.agg #[.int .u64 xs[k].seq, .bool xs[k].last, .string ⟨xs[k].text.toArray⟩]) w ∧
    (Instr.loadAt 9 (.pointer (some ⟨b, off + k * 3 + 2, none⟩))).run Tryd.prog w = .ok (.string ⟨xs[k].text.toArray⟩) w ∧
    (Instr.loadAt 22 (.pointer (some ⟨b, off + k * 3, none⟩))).run Tryd.prog w = .ok (.int .u64 xs[k].seq) w := by
  obtain ⟨b', off', e, h⟩ := sht_at hr hk
  cases e
  refine ⟨atCells hA hn (shC xs[k]) rfl h, atCell ?_ (by simp [go_sem]), atCell ?_ (by simp [go_sem])⟩
  · have := h 2 _ rfl
    rwa [Addr.add_lit] at this
  · have := h 0 _ rfl
    rwa [Addr.add_lit, Nat.add_zero] at this
theorem row_form {e : TypeId} {ao : Option Addr} {c : Nat} {xs : List Sht} {l : List HProp} {w : World} (hE : Ent l w) (i : Nat) (hi : l[i]? = some (row e 3 (.slice ao xs.length c) xs.length (xs.flatMap shC))) (h0 : 0 < xs.length) : ∃ b off, ao = some ⟨b, off, none⟩ := by
  obtain ⟨b, off, h, _⟩ := sht_at (reads_row hE i hi) h0
  exact ⟨b, off, h⟩

def AllRel (xs : List Sht) (l : List HProp) (all m i : Value) (wr : World) : Prop :=
  ∃ (k : Nat) (ao : Option Addr) (c : Nat), k ≤ xs.length ∧ i = .int .i64 k ∧ all = .string ⟨(allT (xs.take k)).toArray⟩ ∧ m = .slice ao (xs.take k).length c ∧ (∀ x ∈ xs.take k, x.text.length ≤ 1000) ∧ Ent (rowSh ao c (xs.take k) :: l) wr
def SameRel (cs xs : List Sht) (l : List HProp) (i is : Value) (wr : World) : Prop :=
  ∃ (k : Nat) (b : Bool), k ≤ cs.length ∧ i = .int .i64 k ∧ is = .bool b ∧ (b = true → cs.length = xs.length ∧ cs.take k = xs.take k) ∧ (b = false → (cs == xs) = false) ∧ Ent l wr
theorem take_next {α : Type} {a b : List α} {k : Nat} (h : a.take k = b.take k) (ha : k < a.length) (hb : k < b.length) (he : a[k] = b[k]) : a.take (k + 1) = b.take (k + 1) := by
  rw [List.take_succ_eq_append_getElem ha, List.take_succ_eq_append_getElem hb, h, he]
theorem eqRsht (x y : Sht) (w : World) : (Op.equalIn 10000 24 (.agg #[.int .u64 x.seq, .bool x.last, .string ⟨x.text.toArray⟩]) (.agg #[.int .u64 y.seq, .bool y.last, .string ⟨y.text.toArray⟩])).run Tryd.prog w = .ok (x == y) w := by
  have h := run_equalIn_agg (P := Tryd.prog) (w := w) 9999 24 #[.int .u64 x.seq, .bool x.last, .string ⟨x.text.toArray⟩] #[.int .u64 y.seq, .bool y.last, .string ⟨y.text.toArray⟩] (by kernel_rfl) (by kernel_rfl)
  refine h.trans ?_
  simp [go_sem]
  obtain ⟨a1, a2, a3⟩ := x
  obtain ⟨b1, b2, b3⟩ := y
  have e : ((⟨a1, a2, a3⟩ : Sht) == ⟨b1, b2, b3⟩) = decide (a1 = b1 ∧ a2 = b2 ∧ a3 = b3) := by
    rw [Bool.eq_iff_iff]; simp
  rw [e]
  by_cases h1 : a1 = b1
  · by_cases h2 : a2 = b2
    · by_cases h3 : a3 = b3
      · simp [h1, h2, h3]
      · simp [h1, h2, h3]
    · simp [h1, h2]
  · have h1' : ¬ ((a1 : Int) = b1) := by omega
    simp [h1, h1']
theorem joinB_cons {xs : List Sht} (h0 : 0 < xs.length) : joinB xs = (cutL xs[0].seq (allT xs) == xs) := by
  cases xs with
  | nil => simp at h0
  | cons x xs => rfl

set_option maxRecDepth 100000 in
set_option maxHeartbeats 4000000 in
theorem SheetCuts_great {seq : Nat} {t : List UInt8} {ao : Option Addr} {n c : Nat} (hg : 5000 < t.length ∨ 20 < n) {l : List HProp} {w : World} (ht : Knows l Table) (hE : Ent l w) :
    Calls Tryd.prog 4 #[.int .u64 seq, .string ⟨t.toArray⟩, .slice ao n c] w (Ret fun v w' => v = .bool true ∧ Ent l w') := by
  by_cases h1 : 5000 < t.length
  · have hd : decide ((5000 : Int) < (t.length : Int)) = true := decide_eq_true (by omega)
    go_enter Tryd.func4, Tryd.ntmps4
    go_wp2_with (first
      | go_skip
      | (go_at_call 10; refine (wakes05_any ht hE).mono ?_; clear hE; rintro e w2 ⟨v, rfl, rfl, hE⟩))
    go_ret
    exact ⟨_, rfl, rfl, hE⟩
  · have hd : decide ((5000 : Int) < (t.length : Int)) = false := decide_eq_false (by omega)
    have hd2 : decide ((20 : Int) < (n : Int)) = true := decide_eq_true (by omega)
    go_enter Tryd.func4, Tryd.ntmps4
    go_wp2_with (first
      | go_skip
      | (go_at_call 10; refine (wakes05_any ht hE).mono ?_; clear hE; rintro e w2 ⟨v, rfl, rfl, hE⟩))
    go_ret
    exact ⟨_, rfl, rfl, hE⟩

set_option maxRecDepth 100000 in
set_option maxHeartbeats 8000000 in
attribute [-go_sem] Instr.loadAt Go.run_equalIn_agg in
theorem SheetCuts_in {seq : Nat} (hs : seq < 18446744073709551616) {t : List UInt8} (h5 : t.length ≤ 5000) {xs : List Sht} (hn : xs.length ≤ 20) (hsq : ∀ x ∈ xs, x.seq < 18446744073709551616) {ao : Option Addr} {c : Nat} {l : List HProp} {w : World} (ht : Knows l Table) (hk : Knows l (reads (.slice ao xs.length c) xs.length (xs.flatMap shC))) (hE : Ent l w) :
    Calls Tryd.prog 4 #[.int .u64 seq, .string ⟨t.toArray⟩, .slice ao xs.length c] w (Ret fun v w' => v = .bool true ∧ Ent l w') := by
  have hd : decide ((5000 : Int) < (t.length : Int)) = false := decide_eq_false (by omega)
  have hd2 : decide ((20 : Int) < (xs.length : Int)) = false := decide_eq_false (by omega)
  have Tok := SL.hid True.intro
  have HNd : ∀ w, Calls Tryd.prog 18 #[.int .i64 t.length] w (fun e w' => e = .returned (.int .i64 ((cutL seq t).length : Nat)) ∧ w = w') := fun w => by rw [cutL_len]; exact Need_any _ (by omega) w
  have HNn : ∀ w, Calls Tryd.prog 18 #[.int .i64 (-(t.length : Int))] w (fun e w' => e = .returned (.int .i64 1) ∧ w = w') := fun w => Need_neg _ (by omega) w
  have HC : ∀ {l : List HProp} {w : World}, Ent l w → _ := fun {l w} h => Cut_any (seq := seq) hs (t := t) (by omega) (l := l) (w := w) h
  have HRC : ∀ {l : List HProp} {w : World}, Ent l w → _ := fun {l w} h => rCut_any (seq := seq) hs (t := t) (by omega) (l := l) (w := w) h
  have HLl := SL.hid (show (cutL seq t).length ≤ 1000000 by rw [cutL_len]; unfold needN; omega)
  generalize cutL seq t = L at *
  have hwneg : IntKind.i64.wrap (-(t.length : Int)) = -(t.length : Int) := by
    simp only [IntKind.wrap, IntKind.bits, IntKind.signed]
    simp
    omega
  go_enter Tryd.func4, Tryd.ntmps4
  go_wp2_with (first
    | go_skip
    | (go_at_call 16; refine (HC hE).mono ?_; clear hE HC; rintro e w2 ⟨v, rfl, a1, c1, rfl, hE⟩)
    | (go_at_call 17; refine (HRC hE).mono ?_; clear hE HRC; rintro e w3 ⟨v, rfl, a2, c2, rfl, hE⟩)
    | (go_at_call 18; clear Tok; refine (HNd _).mono ?_; rintro e w4 ⟨rfl, rfl⟩)
    | (go_at_call 18; refine (HNn _).mono ?_; rintro e w4 ⟨rfl, rfl⟩))
  clear HNd HNn hwneg hd hd2
  go_loopw [9] (fun i wr => CntRel L.length (rowRs a2 c2 L :: rowSh a1 c1 L :: l) i wr) (fun i _ => L.length - (intOf i).toNat)
  case atStart => exact ⟨0, Nat.zero_le _, rfl, hE⟩
  case round =>
    clear hE
    obtain ⟨k, hkl, rfl, hE⟩ := hrel
    have hLl := HLl.out
    by_cases hlt : k < L.length
    · obtain ⟨b2, o2, rfl⟩ := row_form hE 0 rfl (by omega)
      obtain ⟨b1, o1, rfl⟩ := row_form hE 1 rfl (by omega)
      have f1 := SL.hid (show ∀ (l' : List HProp) (w : World), Ent l' w → rowSh (some ⟨b1, o1, none⟩) c1 L ∈ l' → _ from fun l' w h hm => load_row (t := 30) Tryd.isAgg30 Tryd.sizeOf30 h hm hlt)
      have f2 := SL.hid (show ∀ (l' : List HProp) (w : World), Ent l' w → rowRs (some ⟨b2, o2, none⟩) c2 L ∈ l' → _ from fun l' w h hm => load_row (t := 24) Tryd.isAgg24 Tryd.sizeOf24 h hm hlt)
      have hcm := fun w => eqSht L[k] L[k] w
      rw [beq_self_eq_true] at hcm
      have hof := SL.hid (show ∀ (l' : List HProp) (w : World), Ent l' w → _ from fun l' w h => of05_any L[k] (l := l') (w := w) h)
      generalize hx : L[k] = x at f1 f2 hcm hof
      clear hx
      obtain ⟨x1, x2, x3⟩ := x
      go_wp2
      refine wp_region_held_drew (S := (fun w' => ((Instr.loadAt 30 (.pointer (some ⟨b1, o1 + k * 3, none⟩))).run Tryd.prog w' = .ok (.agg #[.int .u64 x1, .bool x2, .string ⟨x3.toArray⟩]) w') ∧ ((Instr.loadAt 24 (.pointer (some ⟨b2, o2 + k * 3, none⟩))).run Tryd.prog w' = .ok (.agg #[.int .u64 x1, .bool x2, .string ⟨x3.toArray⟩]) w'))) (by kernel_rfl) ⟨(f1.out _ _ hE.drew (by repeat (first | exact List.Mem.head _ | refine List.Mem.tail _ ?_))), (f2.out _ _ hE.drew (by repeat (first | exact List.Mem.head _ | refine List.Mem.tail _ ?_)))⟩ (fun hS => ?_)
      refine takeW 0 ⟨some 59, .move (.tmp 7), 39, "law.go:51", #[], none⟩ ?_ (.inl ⟨by rfl, ?_⟩) hS ?_
      rotate_left
      · (intro w hSw; (try dsimp only at hSw); go_simp; (try with_reducible rfl))
      try simp only [Act.put, sb, s0, sz]
      refine takeW 1 ⟨some 60, .move (.tmp 9), 3, "law.go:51", #[], none⟩ ?_ (.inl ⟨by rfl, ?_⟩) hS ?_
      rotate_left
      · (intro w hSw; (try dsimp only at hSw); go_simp; (try with_reducible rfl))
      try simp only [Act.put, sb, s0, sz]
      refine takeW 2 ⟨some 61, .indexAddr 39 (.tmp 59) (.tmp 60), 0, "law.go:51", #[⟨0, .data⟩, ⟨1, .data⟩], none⟩ ?_ (.inl ⟨by rfl, ?_⟩) hS ?_
      rotate_left
      · (intro w hSw; (try dsimp only at hSw); go_simp; (try with_reducible rfl))
      try simp only [Act.put, sb, s0, sz]
      refine takeW 3 ⟨some 62, .load 30 (.tmp 61), 30, "law.go:51", #[⟨2, .data⟩], none⟩ ?_ (.inl ⟨by rfl, ?_⟩) hS ?_
      rotate_left
      · (intro w hSw; (try dsimp only at hSw); go_simp; (try with_reducible rfl))
      try simp only [Act.put, sb, s0, sz]
      refine takeW 4 ⟨some 63, .move (.tmp 8), 38, "law.go:51", #[], none⟩ ?_ (.inl ⟨by rfl, ?_⟩) hS ?_
      rotate_left
      · (intro w hSw; (try dsimp only at hSw); go_simp; (try with_reducible rfl))
      try simp only [Act.put, sb, s0, sz]
      refine takeW 5 ⟨some 64, .move (.tmp 9), 3, "law.go:51", #[], none⟩ ?_ (.inl ⟨by rfl, ?_⟩) hS ?_
      rotate_left
      · (intro w hSw; (try dsimp only at hSw); go_simp; (try with_reducible rfl))
      try simp only [Act.put, sb, s0, sz]
      refine takeW 6 ⟨some 65, .indexAddr 38 (.tmp 63) (.tmp 64), 0, "law.go:51", #[⟨4, .data⟩, ⟨5, .data⟩], none⟩ ?_ (.inl ⟨by rfl, ?_⟩) hS ?_
      rotate_left
      · (intro w hSw; (try dsimp only at hSw); go_simp; (try with_reducible rfl))
      try simp only [Act.put, sb, s0, sz]
      refine takeW 7 ⟨some 66, .load 24 (.tmp 65), 24, "law.go:51", #[⟨6, .data⟩], none⟩ ?_ (.inl ⟨by rfl, ?_⟩) hS ?_
      rotate_left
      · (intro w hSw; (try dsimp only at hSw); go_simp; (try with_reducible rfl))
      try simp only [Act.put, sb, s0, sz]
      refine wpAnyH_ready (rs := [8]) (by kernel_rfl) (by simp) ?_
      refine (AllReadyH.cons (o := { dst := some 67, op := Go.Op.call { callee := Go.Callee.value (Go.Operand.func 12), args := #[Go.Operand.tmp 66], argTypes := #[24] }, type := 30, pos := "law.go:51", after := #[{ on := 7, ground := Go.Ground.data }], guard := none }) rfl (fun K hK => ?_) AllReadyH.nil)
      (go_simp; refine (hof.out _ _ hE.drew).mono ?_; rintro e wa ⟨v, rfl, rfl, hEa⟩)
      refine hK.out _ _ ⟨(f1.out _ _ hEa (by repeat (first | exact List.Mem.head _ | refine List.Mem.tail _ ?_))), (f2.out _ _ hEa (by repeat (first | exact List.Mem.head _ | refine List.Mem.tail _ ?_)))⟩ (fun hS => ?_)
      clear hK K
      try simp only [Act.put, sb, s0, sz]
      refine takeW 9 ⟨some 68, .binOp .neq 30 (.tmp 62) (.tmp 67) 30, 4, "law.go:51", #[⟨3, .data⟩, ⟨8, .data⟩], none⟩ ?_ (.inl ⟨by rfl, ?_⟩) hS ?_
      rotate_left
      · (intro w hSw; (try dsimp only at hSw); go_simp; (try with_reducible rfl))
      try simp only [Act.put, sb, s0, sz]
      refine wpAnyH_done (by kernel_rfl) ?_ _
      go_wp2
      go_roundw
      case rel => exact ⟨k + 1, hlt, by first | rfl | simp, hEa⟩
      case measure => simp [intOf] <;> omega
    · obtain rfl : k = L.length := by omega
      replace hE : Ent l _ := hE.tail.tail
      clear HLl hLl hkl
      go_wp2
      go_loopw [10, 11, 12] (fun all m i wr => AllRel xs l all m i wr) (fun _ _ i _ => xs.length - (intOf i).toNat)
      case atStart => exact ⟨0, none, 0, Nat.zero_le _, rfl, rfl, rfl, by simp, hE.nil _ _⟩
      case round =>
        clear hE
        obtain ⟨k, am, cm, hkl, rfl, rfl, rfl, hall, hE⟩ := hrel
        by_cases hlt : k < xs.length
        · obtain ⟨b, off, rfl, _⟩ := sht_at (hk _ hE.tail) hlt
          obtain ⟨fA, fT, _⟩ := load_reads (t := 24) Tryd.isAgg24 Tryd.sizeOf24 (hk _ hE.tail) hlt
          have hal := allT_len (xs.take k) hall
          have hal2 : (xs.take k).length ≤ 20 := by rw [List.length_take]; omega
          have Hs := SL.hid (allT_snoc xs hlt)
          have Ht := SL.hid (List.take_succ_eq_append_getElem hlt)
          have Hall := SL.hid hall
          have hof := SL.hid (show ∀ (l' : List HProp) (w : World), Ent l' w → _ from fun l' w h => of05_any xs[k] (l := l') (w := w) h)
          have Htl := SL.hid (show (xs.take k).length = k by rw [List.length_take]; omega)
          clear hall
          by_cases hbig : 1000 < xs[k].text.length
          · have hd : decide ((1000 : Int) < (xs[k].text.length : Int)) = true := decide_eq_true (by omega)
            generalize xs[k] = x at *
            go_wp2_with (first
              | go_skip
              | (go_at_call 10; refine (wakes05_any ht hE.tail).mono ?_; clear hE; rintro e w2 ⟨v, rfl, rfl, hE⟩))
            go_ret
            exact ⟨_, rfl, rfl, hE⟩
          · have hd : decide ((1000 : Int) < (xs[k].text.length : Int)) = false := decide_eq_false (by omega)
            have Hx := SL.hid (show xs[k].text.length ≤ 1000 by omega)
            obtain ⟨p, hp, hj, hcc⟩ := cat3 (allT (xs.take k)) xs[k].text (by omega)
            have Hp := SL.hid hp
            have hpl : (xs.take k).length ≤ 1000 := by omega
            clear hp hbig hal hal2
            generalize xs[k] = x at *
            generalize xs.take k = pre at *
            obtain ⟨x1, x2, x3⟩ := x
            have Hpl := SL.hid hpl
            clear hpl
            go_wp2_with (first
              | go_skip
              | (go_at_call 12; refine (hof.out _ _ hE).mono ?_; clear hE; rintro e w2 ⟨v, rfl, rfl, hE⟩)
              | ((with_reducible (show Go.wpList _ _ _ (Go.Oper.mk _ (.buildSlice _ _ _) _ _ _ _ :: _) _ _)); refine wpl_build1 hE rfl rfl (xs := [.int .u64 x1, .bool x2, .string ⟨x3.toArray⟩]) rfl Tryd.underlying39 zs_sht Tryd.sizeOf30 (by decide) (by decide) rfl ?_; clear hE; intro b9 w3 hE)
              | ((with_reducible (show Go.wpList _ _ _ (Go.Oper.mk _ (.call { callee := .builtin .append, args := _, argTypes := _ }) _ _ _ _ :: _) _ _)); refine wpl_appendG hE 1 rfl rfl rfl rfl rfl Tryd.underlying39 info_sht (by decide) (m := 1) (news := shC ⟨x1, x2, x3⟩) (reads_pt hE 0 rfl (off := 0) (fun j u hu => by rw [Nat.zero_add, List.getElem?_toArray]; exact hu)) rfl (shC_one _) (by have := Hpl.out; omega) (by have := Hpl.out; omega) ?_; clear hE; intro ao' c' w6 hE; simp only [List.set_cons_zero, List.set_cons_succ] at hE))
            go_roundw
            case rel =>
              have e1 : (pre ++ [(⟨x1, x2, x3⟩ : Sht)]).length = pre.length + 1 := by simp
              have e2 : (pre ++ [(⟨x1, x2, x3⟩ : Sht)]).flatMap shC = pre.flatMap shC ++ shC ⟨x1, x2, x3⟩ := by simp
              refine ⟨k + 1, ao', c', hlt, by first | rfl | simp, by rw [Hs.out, Hp.out], by rw [Ht.out, e1], ?_, ?_⟩
              · rw [Ht.out]
                intro y hy
                simp only [List.mem_append, List.mem_singleton] at hy
                rcases hy with hy | rfl
                · exact Hall.out y hy
                · exact Hx.out
              · rw [Ht.out]
                simp only [rowSh, e1, e2]
                exact hE.tail
            case measure => simp [intOf] <;> omega
        · obtain rfl : k = xs.length := by omega
          rw [List.take_length] at hall hE
          rw [List.take_length]
          have Hall := SL.hid hall
          have hal := allT_len xs hall
          clear hall hkl
          rcases Nat.eq_zero_or_pos xs.length with h0 | h0
          · obtain rfl : xs = [] := List.eq_nil_of_length_eq_zero h0
            have HJ : ∀ {l' : List HProp} {w : World} {ao : Option Addr} {c : Nat}, Ent l' w → Calls Tryd.prog 19 #[.slice ao 0 c] w (Ret fun v w' => v = .tuple #[.string ⟨#[]⟩, .bool false] ∧ Ent l' w') := fun h => Join_none h
            go_wp2_with (first
              | go_skip
              | (go_at_call 19; refine (HJ hE).mono ?_; clear hE HJ; rintro e w7 ⟨v, rfl, rfl, hE⟩)
              | (go_at_call 10; refine (wakes05_any ht hE.tail).mono ?_; clear hE; rintro e w2 ⟨v, rfl, rfl, hE⟩))
            go_ret
            exact ⟨_, rfl, rfl, hE⟩
          · obtain ⟨b, off, rfl, _⟩ := sht_at (hk _ hE.tail) h0
            obtain ⟨_, _, f0⟩ := load_reads (t := 24) Tryd.isAgg24 Tryd.sizeOf24 (hk _ hE.tail) h0
            rw [Nat.zero_mul, Nat.add_zero] at f0
            have hpos : decide ((0 : Int) < (xs.length : Int)) = true := decide_eq_true (by omega)
            have h00 : ¬ xs.length = 0 := by omega
            have HRC : ∀ {l : List HProp} {w : World}, Ent l w → _ := fun {l w} h => rCut_any (seq := xs[0].seq) (hsq _ (List.getElem_mem h0)) (t := allT xs) (by omega) (l := l) (w := w) h
            have HJB := SL.hid (joinB_cons h0)
            have HJT := SL.hid (show joinB xs = true → joinT xs = allT xs from fun h => by rw [joinT, h, if_pos rfl])
            have HJF := SL.hid (show joinB xs = false → joinT xs = [] from fun h => by rw [joinT, h]; rfl)
            have HLl := SL.hid (show (cutL xs[0].seq (allT xs)).length ≤ 1000000 by rw [cutL_len]; unfold needN; omega)
            have Hn := SL.hid hn
            have Hsq := SL.hid hsq
            generalize cutL xs[0].seq (allT xs) = C at *
            generalize xs[0].seq = sq0 at *
            clear hal hsq hn
            generalize hT : allT xs = T at *
            clear hT
            go_wp2_with (first
              | go_skip
              | (go_at_call 17; refine (HRC hE).mono ?_; clear hE HRC; rintro e w3 ⟨v, rfl, a3, c3, rfl, hE⟩))
            go_loopw [15, 13] (fun i is wr => SameRel C xs (rowRs a3 c3 C :: rowSh am cm xs :: l) i is wr) (fun i _ _ => C.length - (intOf i).toNat)
            case atStart =>
              refine ⟨0, _, Nat.zero_le _, rfl, rfl, fun h => ⟨by (have h2 : ((C.length : Nat) : Int) = xs.length := by simpa using h); omega, rfl⟩, fun h => ?_, hE⟩
              rw [beq_eq_false_iff_ne]
              intro e
              rw [e] at h
              simp at h
            case round =>
              clear hE
              obtain ⟨k, b, hkl, rfl, rfl, hyes, hno, hE⟩ := hrel
              have hLl := HLl.out
              by_cases hgo : k < C.length ∧ b = true
              · obtain ⟨hlt, rfl⟩ := hgo
                obtain ⟨hcl, hcx⟩ := hyes rfl
                obtain ⟨b3, o3, rfl⟩ := row_form hE 0 rfl (by omega)
                have hltx : k < xs.length := by omega
                have f1 := SL.hid (show ∀ (l' : List HProp) (w : World), Ent l' w → rowRs (some ⟨b3, o3, none⟩) c3 C ∈ l' → _ from fun l' w h hm => load_row (t := 24) Tryd.isAgg24 Tryd.sizeOf24 h hm hlt)
                have f2 := SL.hid (show ∀ (w : World), Ent l w → _ from fun w h => (load_reads (t := 24) Tryd.isAgg24 Tryd.sizeOf24 (hk w h) hltx).1)
                have hcm := fun w => eqRsht C[k] xs[k] w
                have Hyes := SL.hid (show (C[k] == xs[k]) = true → C.take (k + 1) = xs.take (k + 1) from fun h => take_next hcx hlt hltx (by simpa using h))
                have Hno := SL.hid (show (C[k] == xs[k]) = false → (C == xs) = false from fun h => by
                  rw [beq_eq_false_iff_ne]
                  intro e
                  have : C[k] = xs[k] := by simp [e]
                  rw [this, beq_self_eq_true] at h
                  cases h)
                have Hcl := SL.hid hcl
                clear hyes hno hcx hcl
                generalize C[k] = x at *
                generalize xs[k] = y at *
                generalize hq : (x == y) = q at *
                obtain ⟨x1, x2, x3⟩ := x
                obtain ⟨y1, y2, y3⟩ := y
                clear hq
                go_wp2
                refine wp_region_held_drew (S := (fun w' => ((Instr.loadAt 24 (.pointer (some ⟨b3, o3 + k * 3, none⟩))).run Tryd.prog w' = .ok (.agg #[.int .u64 x1, .bool x2, .string ⟨x3.toArray⟩]) w') ∧ ((Instr.loadAt 24 (.pointer (some ⟨b, off + k * 3, none⟩))).run Tryd.prog w' = .ok (.agg #[.int .u64 y1, .bool y2, .string ⟨y3.toArray⟩]) w'))) (by kernel_rfl) ⟨(f1.out _ _ hE.drew (by repeat (first | exact List.Mem.head _ | refine List.Mem.tail _ ?_))), (f2.out _ (hE.drew.suf (by repeat (first | exact List.suffix_refl _ | refine List.IsSuffix.trans ?_ (List.suffix_cons _ _)))))⟩ (fun hS => ?_)
                refine takeW 0 ⟨some 122, .move (.tmp 14), 38, "law.go:69", #[], none⟩ ?_ (.inl ⟨by rfl, ?_⟩) hS ?_
                rotate_left
                · (intro w hSw; (try dsimp only at hSw); go_simp; (try with_reducible rfl))
                try simp only [Act.put, sb, s0, sz]
                refine takeW 1 ⟨some 123, .move (.tmp 15), 3, "law.go:69", #[], none⟩ ?_ (.inl ⟨by rfl, ?_⟩) hS ?_
                rotate_left
                · (intro w hSw; (try dsimp only at hSw); go_simp; (try with_reducible rfl))
                try simp only [Act.put, sb, s0, sz]
                refine takeW 2 ⟨some 124, .indexAddr 38 (.tmp 122) (.tmp 123), 0, "law.go:69", #[⟨0, .data⟩, ⟨1, .data⟩], none⟩ ?_ (.inl ⟨by rfl, ?_⟩) hS ?_
                rotate_left
                · (intro w hSw; (try dsimp only at hSw); go_simp; (try with_reducible rfl))
                try simp only [Act.put, sb, s0, sz]
                refine takeW 3 ⟨some 125, .load 24 (.tmp 124), 24, "law.go:69", #[⟨2, .data⟩], none⟩ ?_ (.inl ⟨by rfl, ?_⟩) hS ?_
                rotate_left
                · (intro w hSw; (try dsimp only at hSw); go_simp; (try with_reducible rfl))
                try simp only [Act.put, sb, s0, sz]
                refine takeW 4 ⟨some 126, .move (.tmp 2), 38, "law.go:69", #[], none⟩ ?_ (.inl ⟨by rfl, ?_⟩) hS ?_
                rotate_left
                · (intro w hSw; (try dsimp only at hSw); go_simp; (try with_reducible rfl))
                try simp only [Act.put, sb, s0, sz]
                refine takeW 5 ⟨some 127, .move (.tmp 15), 3, "law.go:69", #[], none⟩ ?_ (.inl ⟨by rfl, ?_⟩) hS ?_
                rotate_left
                · (intro w hSw; (try dsimp only at hSw); go_simp; (try with_reducible rfl))
                try simp only [Act.put, sb, s0, sz]
                refine takeW 6 ⟨some 128, .indexAddr 38 (.tmp 126) (.tmp 127), 0, "law.go:69", #[⟨4, .data⟩, ⟨5, .data⟩], none⟩ ?_ (.inl ⟨by rfl, ?_⟩) hS ?_
                rotate_left
                · (intro w hSw; (try dsimp only at hSw); go_simp; (try with_reducible rfl))
                try simp only [Act.put, sb, s0, sz]
                refine takeW 7 ⟨some 129, .load 24 (.tmp 128), 24, "law.go:69", #[⟨6, .data⟩], none⟩ ?_ (.inl ⟨by rfl, ?_⟩) hS ?_
                rotate_left
                · (intro w hSw; (try dsimp only at hSw); go_simp; (try with_reducible rfl))
                try simp only [Act.put, sb, s0, sz]
                refine takeW 8 ⟨some 130, .binOp .eql 24 (.tmp 125) (.tmp 129) 24, 4, "law.go:69", #[⟨3, .data⟩, ⟨7, .data⟩], none⟩ ?_ (.inl ⟨by rfl, ?_⟩) hS ?_
                rotate_left
                · (intro w hSw; (try dsimp only at hSw); go_simp; (try with_reducible rfl))
                try simp only [Act.put, sb, s0, sz]
                refine takeW 9 ⟨some 13, .assign (.tmp 130), 4, "law.go:69", #[⟨8, .data⟩, ⟨0, .phase⟩, ⟨1, .phase⟩, ⟨2, .phase⟩, ⟨3, .phase⟩, ⟨4, .phase⟩, ⟨5, .phase⟩, ⟨6, .phase⟩, ⟨7, .phase⟩, ⟨8, .phase⟩], none⟩ ?_ (.inl ⟨by rfl, ?_⟩) hS ?_
                rotate_left
                · (intro w hSw; (try dsimp only at hSw); go_simp; (try with_reducible rfl))
                try simp only [Act.put, sb, s0, sz]
                refine wpAnyH_done (by kernel_rfl) ?_ _
                go_wp2
                go_roundw
                case rel => exact ⟨k + 1, q, hlt, by first | rfl | simp, rfl, fun h => ⟨Hcl.out, Hyes.out h⟩, fun h => Hno.out h, hE.drew⟩
                case measure => simp [intOf] <;> omega
              · cases b with
                | true =>
                  obtain rfl : k = C.length := by
                    have : ¬ k < C.length := fun h => hgo ⟨h, rfl⟩
                    omega
                  obtain ⟨hcl, hcx⟩ := hyes rfl
                  rw [List.take_length] at hcx
                  have hjb : joinB xs = true := by rw [HJB.out, hcx, hcl, List.take_length, beq_self_eq_true]
                  have HJ : ∀ {l' : List HProp} {w : World} (i : Nat), l'[i]? = some (rowSh am cm xs) → Ent l' w → Calls Tryd.prog 19 #[.slice am xs.length cm] w (Ret fun v w' => v = .tuple #[.string ⟨T.toArray⟩, .bool true] ∧ Ent l' w') := fun i hi h => by
                    have h := Join_row (by have := Hn.out; omega) Hall.out Hsq.out h i hi
                    rw [HJT.out hjb, hjb] at h
                    exact h
                  clear hgo hyes hno hcx hcl hjb
                  go_wp2_with (first
                    | go_skip
                    | (go_at_call 19; refine (HJ 1 rfl hE).mono ?_; clear hE HJ; rintro e w7 ⟨v, rfl, rfl, hE⟩)
                    | (go_at_call 10; refine (wakes05_any ht hE.tail.tail).mono ?_; clear hE; rintro e w2 ⟨v, rfl, rfl, hE⟩))
                  go_ret
                  exact ⟨_, rfl, rfl, hE⟩
                | false =>
                  have hjb : joinB xs = false := by rw [HJB.out]; exact hno rfl
                  have HJ : ∀ {l' : List HProp} {w : World} (i : Nat), l'[i]? = some (rowSh am cm xs) → Ent l' w → Calls Tryd.prog 19 #[.slice am xs.length cm] w (Ret fun v w' => v = .tuple #[.string ⟨#[]⟩, .bool false] ∧ Ent l' w') := fun i hi h => by
                    have h := Join_row (by have := Hn.out; omega) Hall.out Hsq.out h i hi
                    rw [HJF.out hjb, hjb] at h
                    exact h
                  clear hgo hyes hno hjb
                  by_cases hkc : k < C.length
                  all_goals
                    go_wp2_with (first
                      | go_skip
                      | (go_at_call 19; refine (HJ 1 rfl hE).mono ?_; clear hE HJ; rintro e w7 ⟨v, rfl, rfl, hE⟩)
                      | (go_at_call 10; refine (wakes05_any ht hE.tail.tail).mono ?_; clear hE; rintro e w2 ⟨v, rfl, rfl, hE⟩))
                    go_ret
                    exact ⟨_, rfl, rfl, hE⟩

theorem SheetCuts_any {seq : Nat} (hs : seq < 18446744073709551616) (t : List UInt8) {xs : List Sht} (hsq : ∀ x ∈ xs, x.seq < 18446744073709551616) {ao : Option Addr} {c : Nat} {l : List HProp} {w : World} (ht : Knows l Table) (hk : Knows l (reads (.slice ao xs.length c) xs.length (xs.flatMap shC))) (hE : Ent l w) :
    Calls Tryd.prog 4 #[.int .u64 seq, .string ⟨t.toArray⟩, .slice ao xs.length c] w (Ret fun v w' => v = .bool true ∧ Ent l w') := by
  by_cases hg : 5000 < t.length ∨ 20 < xs.length
  · exact SheetCuts_great hg ht hE
  · exact SheetCuts_in hs (by omega) (by omega) hsq ht hk hE
end Go.Proofs.YtdpfigkjkjjedaaDoor
namespace Go.Proofs.YtdpfigkjkjjedaaDoor
open Go.RowKit Go.SL Go.ChangeShapes Go.WideShapes Go.Deep

set_option maxRecDepth 100000 in
theorem open_shts {H : Type} {enc : TypeId × Value → H} {w : World} {held : Bool} {r : Reach} {b0 : Nat} {v : Value} {d : DataW H} {ps : List MemPlace}
    (hval : Value.okWide Tryd.prog w r b0 38 v) (h : DataW.Trod enc Tryd.prog w 0 (fun _ => true) held 38 v d ps) :
    ∃ (ao : Option Addr) (c : Nat) (xs : List Sht), v = .slice ao xs.length c ∧ xs.length ≤ c ∧ c ≤ maxLen ∧ (∀ x ∈ xs, x.seq < 18446744073709551616) ∧ reads v xs.length (xs.flatMap shC) w :=
  open_row Tryd.underlying38 shC (fun x => x.seq < 18446744073709551616) shC_len (by omega) (by kernel_rfl) hval h (fun m cs y hl hy => by
    obtain ⟨ys, n, _, _, _, hyl, hg⟩ := DataW.trod_struct Tryd.underlying24 hy
    match cs, hl with
    | [c0, c1, c2], _ =>
      have g0 := hg 0 _ rfl
      have g1 := hg 1 _ rfl
      have g2 := hg 2 _ rfl
      match ys, hyl with
      | [y0, y1, y2], _ =>
        obtain ⟨a, ha, q0⟩ := trod_u64 (show DataW.trod enc Tryd.prog w 0 (fun _ => true) held n 22 [c0] = some y0 from g0)
        obtain ⟨b, q1, _⟩ := DataW.trod_bool Tryd.underlying4 (show DataW.trod enc Tryd.prog w 0 (fun _ => true) held n 4 [c1] = some y1 from g1)
        obtain ⟨c, q2, _, _⟩ := DataW.trod_string Tryd.underlying9 (show DataW.trod enc Tryd.prog w 0 (fun _ => true) held n 9 [c2] = some y2 from g2)
        simp only [List.cons.injEq, and_true] at q0 q1 q2
        subst q0 q1 q2
        exact ⟨⟨a, b, c.data.toList⟩, ha, rfl⟩)
theorem SheetCuts_int {seq : Int} (hs : 0 ≤ seq ∧ seq ≤ 18446744073709551615) (t : ByteArray) {xs : List Sht} (hsq : ∀ x ∈ xs, x.seq < 18446744073709551616) {ao : Option Addr} {c : Nat} {l : List HProp} {w : World} (ht : Knows l Table) (hk : Knows l (reads (.slice ao xs.length c) xs.length (xs.flatMap shC))) (hE : Ent l w) :
    Calls Tryd.prog 4 #[.int .u64 seq, .string t, .slice ao xs.length c] w (Ret fun v w' => v = .bool true ∧ Ent l w') := by
  obtain ⟨n, rfl⟩ := Int.eq_ofNat_of_zero_le hs.1
  exact SheetCuts_any (by omega) t.data.toList hsq ht hk hE
end Go.Proofs.YtdpfigkjkjjedaaDoor
namespace Go.Proofs.YtdpfigkjkjjedaaDoor
open Go.RowKit Go.SL

theorem flip_val (ot : List UInt8) (q r : Nat) (hq : q < ot.length) (hr : r < 8) : Value.int .u8 (bits .xor .u8 (ot[q].toNat : Int) (2 ^ r % 256)) = bval (ot.getD q 0 ^^^ UInt8.ofNat (2 ^ r)) := by
  have h1 : (2 : Int) ^ r % 256 = ((2 ^ r : Nat) : Int) := by
    have : ∀ r, r < 8 → (2 : Int) ^ r % 256 = ((2 ^ r : Nat) : Int) := by decide
    exact this r hr
  have h2 : 2 ^ r < 256 := by
    have : ∀ r, r < 8 → 2 ^ r < 256 := by decide
    exact this r hr
  have h3 : (UInt8.ofNat (2 ^ r)).toNat = 2 ^ r := by simp [Nat.mod_eq_of_lt h2]
  have h4 : ot.getD q 0 = ot[q] := by simp [List.getD_eq_getElem?_getD, hq]
  have h5 := ot[q].toNat_lt
  rw [h1, u8_xor_nat _ _ (by omega) h2, h4]
  unfold bval
  rw [UInt8.toNat_xor, h3]

theorem Ent.asFlip {l : List HProp} {w : World} {ot : List UInt8} {q r c g k n : Nat} (hE : Ent (row 5 1 (.slice (some ⟨g, 0, none⟩) n c) n ((bvals ot).set q (bval (ot.getD q 0 ^^^ UInt8.ofNat (2 ^ r)))) :: l) w) (hf : flip1 ot k = ot.set q (ot.getD q 0 ^^^ UInt8.ofNat (2 ^ r))) (hn : n = ot.length := by rfl) :
    Ent (rowB (some ⟨g, 0, none⟩) c (flip1 ot k) :: l) w := by
  subst hn
  unfold rowB
  rw [hf, List.length_set]
  unfold bvals
  rw [List.map_set]
  exact hE

end Go.Proofs.YtdpfigkjkjjedaaDoor
namespace Go.Proofs.YtdpfigkjkjjedaaDoor
open Go.RowKit Go.SL

/-- the sectors that were put, each in a row of its own -/
def slv (n : Nat) (b : Option Addr × Nat) : Value := .slice b.1 n b.2
def secRows (L : List Sht) (bs : List (Option Addr × Nat)) : List HProp := (List.zip L bs).map fun p => rowB p.2.1 p.2.2 (shP p.1.seq p.1.last p.1.text)
abbrev rowSec (ao : Option Addr) (c : Nat) (bs : List (Option Addr × Nat)) : HProp := row 26 1 (.slice ao bs.length c) bs.length (bs.map (slv 512))
theorem info_bsl : elemInfo Tryd.prog 26 = some (some 1, 1, 24) := by kernel_rfl
theorem zip_snoc {α β : Type} {xs : List α} {ys : List β} (x : α) (y : β) (h : xs.length = ys.length) : List.zip (xs ++ [x]) (ys ++ [y]) = List.zip xs ys ++ [(x, y)] := by
  rw [List.zip_append h]; rfl
theorem secRows_snoc {xs : List Sht} {bs : List (Option Addr × Nat)} (x : Sht) (b : Option Addr × Nat) (h : xs.length = bs.length) : secRows (xs ++ [x]) (bs ++ [b]) = secRows xs bs ++ [rowB b.1 b.2 (shP x.seq x.last x.text)] := by
  rw [secRows, zip_snoc x b h, List.map_append]; rfl
theorem Ent.pick {A : HProp} {m l : List HProp} {w : World} (h : Ent (m ++ l) w) {i : Nat} (hi : m[i]? = some A) : Ent (A :: l) w := by
  have hlt : i < m.length := (List.getElem?_eq_some_iff.1 hi).1
  have h1 := h.front i (by rw [List.getElem?_append_left hlt]; exact hi)
  rw [List.eraseIdx_append_of_lt_length hlt] at h1
  exact (h1.perm (List.perm_middle (l₁ := m.eraseIdx i)).symm).drop
theorem secRows_at {L : List Sht} {bs : List (Option Addr × Nat)} {i : Nat} (hL : i < L.length) (hb : i < bs.length) : (secRows L bs)[i]? = some (rowB bs[i].1 bs[i].2 (shP L[i].seq L[i].last L[i].text)) := by
  rw [secRows, List.getElem?_map, List.getElem?_eq_getElem (by rw [List.length_zip]; omega)]
  simp
theorem reads_upto {ao : Option Addr} {n c : Nat} {xs : List Value} {w : World} (h : reads (.slice ao n c) n xs w) {k : Nat} (hk : k ≤ n) (m : Nat) : reads (.slice ao k c) k (xs.take m) w := by
  obtain ⟨ao', c', e, h1, h2⟩ := h
  cases e
  refine ⟨ao, c, rfl, fun h => ?_, fun ad had j u hu => ?_⟩
  · obtain ⟨h3, h4⟩ := h1 h
    rw [h4]
    exact ⟨by omega, by simp⟩
  · refine h2 ad had j u ?_
    rw [List.getElem?_take] at hu
    split at hu
    · exact hu
    · cases hu
theorem flat_take (xs : List Sht) (k : Nat) : (xs.take k).flatMap shC = (xs.flatMap shC).take (k * 3) := by
  induction xs generalizing k with
  | nil => simp
  | cons x xs ih =>
    cases k with
    | zero => simp
    | succ k =>
      rw [List.take_succ_cons, List.flatMap_cons, ih, List.flatMap_cons, List.take_append, shC_len]
      rw [List.take_of_length_le (l := shC x) (by rw [shC_len]; omega), show (k + 1) * 3 - 3 = k * 3 by omega]
/-- .. of all but the last sheet -/
theorem Join_but {L : List Sht} (hn : L.length ≤ 1000) (hx : ∀ x ∈ L, x.text.length ≤ 1000) (hsq : ∀ x ∈ L, x.seq < 18446744073709551616) {ao : Option Addr} {c : Nat} {l : List HProp} {w : World} (hE : Ent l w) (i : Nat) (hi : l[i]? = some (rowSh ao c L)) :
    Calls Tryd.prog 19 #[.slice ao (L.length - 1) c] w (Ret fun v w' => v = .tuple #[.string ⟨(joinT L.dropLast).toArray⟩, .bool (joinB L.dropLast)] ∧ Ent l w') := by
  have h := Join_any (xs := L.dropLast) (ao := ao) (c := c) (by rw [List.length_dropLast]; omega) (fun x h => hx x ((List.dropLast_sublist L).subset h)) (fun x h => hsq x ((List.dropLast_sublist L).subset h)) (l := l) (fun w h => by
    have hr := reads_row h i hi
    have h2 := reads_upto hr (k := L.length - 1) (by omega) ((L.length - 1) * 3)
    rw [← flat_take, ← List.dropLast_eq_take] at h2
    rw [List.length_dropLast]
    exact h2) hE
  rw [List.length_dropLast] at h
  exact h

theorem cutAt_0 (size : Nat) (ao : Option Addr) (c : Nat) : cutAt size ao c 0 = ao := by
  unfold cutAt
  split
  · rfl
  · cases ao with
    | none => rfl
    | some a => simp [Addr.add]
theorem cut_to {t e : TypeId} {size : Nat} (ht : Tryd.prog.underlying t = some (.slice e)) (hs : ∀ w, (Go.sizeOf e).run Tryd.prog w = .ok size w) (ao : Option Addr) (n c hi : Nat) (h2 : hi ≤ c) (w : World) :
    (Instr.sliceAt t (.slice ao n c) none (some (.int .i64 hi)) none).run Tryd.prog w = .ok (.slice ao hi c) w := by
  rw [sliceAt_slice ht, run_cut_hi ht hs ao n c .i64 hi h2, cutAt_0]
  rfl
theorem perm_move {A B C : HProp} {S R : List HProp} : (A :: B :: C :: (S ++ R)).Perm (B :: C :: ((S ++ [A]) ++ R)) := by
  have h := (List.perm_middle (a := A) (l₁ := B :: C :: S) (l₂ := R)).symm
  simpa using h
def BkRel (L : List Sht) (l : List HProp) (m s i : Value) (wr : World) : Prop :=
  ∃ (k : Nat) (am : Option Addr) (cm : Nat) (as_ : Option Addr) (cs : Nat) (bs : List (Option Addr × Nat)), k ≤ L.length ∧ i = .int .i64 k ∧ bs.length = k ∧ m = .slice am (L.take k).length cm ∧ s = .slice as_ bs.length cs ∧
    Ent (rowSh am cm (L.take k) :: rowSec as_ cs bs :: (secRows (L.take k) bs ++ l)) wr
def BtRel (b : List UInt8) (s : Nat) (l : List HProp) (ao : Option Addr) (c : Nat) (ch i : Value) (wr : World) : Prop :=
  ∃ (k : Nat) (ot : List UInt8) (cb : Bool), k ≤ 32 ∧ i = .int .i64 k ∧ ch = .bool cb ∧ Turned b s k ot cb ∧ Ent (rowB ao c ot :: l) wr

set_option maxRecDepth 100000 in
set_option maxHeartbeats 4000000 in
theorem SheetBack_great {seq : Nat} {t : List UInt8} {which at_ change : Nat} (hg : 5000 < t.length) {l : List HProp} {w : World} (ht : Knows l Table) (hE : Ent l w) :
    Calls Tryd.prog 5 #[.int .u64 seq, .string ⟨t.toArray⟩, .int .u8 which, .int .u16 at_, .int .u32 change] w (Ret fun v w' => v = .bool true ∧ Ent l w') := by
  have hd : decide ((5000 : Int) < (t.length : Int)) = true := decide_eq_true (by omega)
  go_enter Tryd.func5, Tryd.ntmps5
  go_wp2_with (first
    | go_skip
    | (go_at_call 10; refine (wakes05_any ht hE).mono ?_; clear hE; rintro e w2 ⟨v, rfl, rfl, hE⟩))
  go_ret
  exact ⟨_, rfl, rfl, hE⟩

set_option maxRecDepth 100000 in
set_option maxHeartbeats 8000000 in
theorem SheetBack_in {seq : Nat} (hs : seq < 18446744073709551616) {t : List UInt8} (h5 : t.length ≤ 5000) {which at_ change : Nat} (hw : which < 256) (ha : at_ < 65536) (hc : change < 4294967296) {l : List HProp} {w : World} (ht : Knows l Table) (hE : Ent l w) :
    Calls Tryd.prog 5 #[.int .u64 seq, .string ⟨t.toArray⟩, .int .u8 which, .int .u16 at_, .int .u32 change] w (Ret fun v w' => v = .bool true ∧ Ent l w') := by
  have hd : decide ((5000 : Int) < (t.length : Int)) = false := decide_eq_false (by omega)
  have HC : ∀ {l : List HProp} {w : World}, Ent l w → _ := fun {l w} h => Cut_any (seq := seq) hs (t := t) (by omega) (l := l) (w := w) h
  have HLn := SL.hid (cutL_len seq t)
  have HLa := SL.hid (show ∀ k (h : k < (cutL seq t).length), (cutL seq t)[k] = pieceAt seq t k from fun k h => cutL_at h)
  have HLl := SL.hid (show (cutL seq t).length ≤ 1000 by rw [cutL_len]; unfold needN; omega)
  have HLp := SL.hid (show 0 < (cutL seq t).length by rw [cutL_len]; exact needN_pos _)
  have HJ1 := SL.hid (join_cut (t := t) hs)
  have HJ2 := SL.hid (join_short (seq := seq) (t := t))
  have HLx := SL.hid (show ∀ x ∈ cutL seq t, x.text.length ≤ 497 ∧ x.seq < 18446744073709551616 from fun x hx => by
    simp only [cutL, List.mem_map, List.mem_range] at hx
    obtain ⟨k, _, rfl⟩ := hx
    exact ⟨piece_len _ _ _, piece_seq _ _ _⟩)
  generalize cutL seq t = L at *
  go_enter Tryd.func5, Tryd.ntmps5
  go_wp2_with (first
    | go_skip
    | (go_at_call 16; refine (HC hE).mono ?_; clear hE HC; rintro e w2 ⟨v, rfl, a1, c1, rfl, hE⟩))
  clear hd
  go_loopw [12, 13, 14] (fun m s i wr => BkRel L (rowSh a1 c1 L :: l) m s i wr) (fun _ _ i _ => L.length - (intOf i).toNat)
  case atStart => exact ⟨0, none, 0, none, 0, [], Nat.zero_le _, rfl, rfl, rfl, rfl, (hE.nil _ _).nil _ _⟩
  case round =>
    clear hE
    obtain ⟨k, am, cm, as_, cs, bs, hkl, rfl, hbl, rfl, rfl, hE⟩ := hrel
    have hLl := HLl.out
    by_cases hlt : k < L.length
    · have htl : (L.take k).length = k := by rw [List.length_take]; omega
      have hEr : Ent (rowSh a1 c1 L :: l) wr := by
        have := hE.tail.tail.drop
        exact this
      obtain ⟨b, off, rfl, hx⟩ := sht_at (reads_row hEr 0 rfl) hlt
      have Ht := SL.hid (List.take_succ_eq_append_getElem hlt)
      have Hx := SL.hid (HLx.out _ (List.getElem_mem hlt))
      have hp := HLa.out k hlt
      have hseq : IntKind.u64.wrap ((seq : Int) + (k : Int)) = (L[k].seq : Int) := by
        rw [hp]
        show _ = (((seq + k) % 18446744073709551616 : Nat) : Int)
        simp only [IntKind.wrap, IntKind.bits, IntKind.signed]
        simp
      have hlast : ((k : Int) == (L.length : Int) - 1) = L[k].last := by
        rw [hp]
        show _ = decide (k + 1 = needN t.length)
        rw [← HLn.out, Bool.eq_iff_iff]
        simp only [beq_iff_eq, decide_eq_true_eq]
        omega
      have hwk : IntKind.u64.wrap (k : Int) = k := wrapU_id (by omega)
      clear hEr hp
      generalize L[k] = x at *
      obtain ⟨x1, x2, x3⟩ := x
      obtain ⟨hx3, hx1⟩ := Hx.out
      clear Hx
      have Hsl := SL.hid (shP_len (seq := x1) (last := x2) hx3)
      have HP : ∀ {l : List HProp} {w : World}, Knows l Table → Ent l w → Calls Tryd.prog 11 #[.agg #[.int .u64 x1, .bool x2, .string ⟨x3.toArray⟩]] w (Ret fun v w' => ∃ ao c, v = .tuple #[.slice ao 512 c, .int .i64 0] ∧ Ent (rowB ao c (shP x1 x2 x3) :: l) w') := fun h1 h2 => by
        rw [← Hsl.out]
        exact sPut_ok x2 hx1 hx3 h1 h2
      have HT : ∀ {l : List HProp} {w : World} {ao : Option Addr} {c : Nat}, Knows l Table → Ent (rowB ao c (shP x1 x2 x3) :: l) w → Calls Tryd.prog 14 #[.slice ao 512 c] w (Ret fun v w' => v = .tuple #[.agg #[.int .u64 x1, .bool x2, .string ⟨x3.toArray⟩], .int .i64 0] ∧ Ent (rowB ao c (shP x1 x2 x3) :: l) w') := fun {l w ao c} h1 h2 => by
        have h := sTake_any (b := shP x1 x2 x3) (ao := ao) (c := c) (by rw [Hsl.out]; omega) h1.cons (fun _ h => reads_row h 0 rfl) h2
        have e := rdOk_shP (last := x2) hx1 hx3
        rw [resS, resSE, e, if_pos rfl, if_pos rfl, (rd_shP hx1 hx3).1] at h
        rw [← Hsl.out]
        exact h
      have HK : Knows (rowSh am cm (L.take k) :: rowSec as_ cs bs :: (secRows (L.take k) bs ++ (rowSh (some ⟨b, off, none⟩) c1 L :: l))) Table := (Knows.append (m := secRows (L.take k) bs) ht.cons).cons.cons
      have Hsr := SL.hid (secRows_snoc (xs := L.take k) (bs := bs) ⟨x1, x2, x3⟩)
      simp only at hseq hlast Hsr
      generalize shP x1 x2 x3 = sp at *
      have Hbl := SL.hid hbl
      have Htl := SL.hid htl
      clear hbl htl
      generalize L.take k = pre at *
      generalize secRows pre bs = S at *
      go_wp2_with (first
        | go_skip
        | ((with_reducible (show Go.wpList _ _ _ (Go.Oper.mk _ (.load 30 (.tmp 45)) _ _ _ _ :: _) _ _)); refine wpl_loadC rfl rfl rfl Tryd.isAgg30 Tryd.sizeOf30 [.int .u64 x1, .bool x2, .string ⟨x3.toArray⟩] rfl hx ?_)
        | (go_at_call 11; refine (HP HK hE).mono ?_; clear hE HP; rintro e w3 ⟨v, rfl, ap, cp, rfl, hE⟩)
        | (go_at_call 14; refine (HT HK hE).mono ?_; clear hE HT; rintro e w4 ⟨v, rfl, rfl, hE⟩)
        | ((with_reducible (show Go.wpList _ _ _ (Go.Oper.mk _ (.alloc _) _ _ _ _ :: _) _ _)); refine wpl_allocN hE rfl rfl (n := 3) zs_sht ?_; clear hE; intro b17 cs9 w5 hq hE)
        | ((with_reducible (show Go.wpList _ _ _ (Go.Oper.mk _ (.store _ _ _) _ _ _ _ :: _) _ _)); refine wpl_storeN hE 0 rfl rfl rfl rfl (xs := [.int .u64 x1, .bool x2, .string ⟨x3.toArray⟩]) rfl Tryd.sizeOf30 rfl (by simp [Value.oneCell']) hq ?_; clear hE hq; intro w6 hE; simp only [List.set_cons_zero] at hE)
        | ((with_reducible (show Go.wpList _ _ _ (Go.Oper.mk _ (.load 30 (.tmp 17)) _ _ _ _ :: _) _ _)); refine wpl_loadW hE 0 rfl rfl rfl rfl Tryd.isAgg30 Tryd.sizeOf30 rfl ?_)
        | ((with_reducible (show Go.wpList _ _ _ (Go.Oper.mk _ (.load 22 _) _ _ _ _ :: _) _ _)); refine wpl_load1 hE 0 rfl rfl rfl rfl (by simp [go_sem]) rfl ?_)
        | ((with_reducible (show Go.wpList _ _ _ (Go.Oper.mk _ (.load 4 _) _ _ _ _ :: _) _ _)); refine wpl_load1 hE 0 rfl rfl rfl rfl (by simp [go_sem]) rfl ?_)
        | ((with_reducible (show Go.wpList _ _ _ (Go.Oper.mk _ (.buildSlice 39 _ _) _ _ _ _ :: _) _ _)); refine wpl_build1 hE rfl rfl (xs := [.int .u64 x1, .bool x2, .string ⟨x3.toArray⟩]) rfl Tryd.underlying39 zs_sht Tryd.sizeOf30 (by decide) (by decide) rfl ?_; clear hE; intro b9 w7 hE)
        | ((with_reducible (show Go.wpList _ _ _ (Go.Oper.mk _ (.call { callee := .builtin .append, args := _, argTypes := #[39, 39] }) _ _ _ _ :: _) _ _)); refine wpl_appendG hE 3 rfl rfl rfl rfl rfl Tryd.underlying39 info_sht (by decide) (m := 1) (news := shC ⟨x1, x2, x3⟩) (reads_pt hE 0 rfl (off := 0) (fun j u hu => by rw [Nat.zero_add, List.getElem?_toArray]; exact hu)) rfl (shC_one _) (by have := Htl.out; omega) (by have := Htl.out; omega) ?_; clear hE; intro am' cm' w8 hE; simp only [List.set_cons_zero, List.set_cons_succ] at hE)
        | ((with_reducible (show Go.wpList _ _ _ (Go.Oper.mk _ (.call { callee := .builtin .append, args := _, argTypes := #[48, 48] }) _ _ _ _ :: _) _ _)); have hE9 := hE.alloc (.cells #[.slice ap 512 cp] 26); refine wpl_appendG hE9 5 rfl rfl rfl rfl rfl Tryd.underlying48 info_bsl (by decide) (m := 1) (news := [.slice ap 512 cp]) (reads_pt hE9 0 rfl (off := 0) (fun j u hu => by rw [Nat.zero_add, List.getElem?_toArray]; exact hu)) rfl (by simp [Value.oneCell']) (by have := Hbl.out; omega) (by have := Hbl.out; omega) ?_; clear hE9 hE; intro as' cs' w9 hE; simp only [List.set_cons_zero, List.set_cons_succ] at hE))
      go_roundw
      case rel =>
        have e1 : (pre ++ [(⟨x1, x2, x3⟩ : Sht)]).length = pre.length + 1 := by simp
        have e2 : (pre ++ [(⟨x1, x2, x3⟩ : Sht)]).flatMap shC = pre.flatMap shC ++ shC ⟨x1, x2, x3⟩ := by simp
        have e3 : (bs ++ [(ap, cp)]).length = bs.length + 1 := by simp
        have e4 : (bs ++ [(ap, cp)]).map (slv 512) = bs.map (slv 512) ++ [.slice ap 512 cp] := by simp [slv]
        refine ⟨k + 1, am', cm', as', cs', bs ++ [(ap, cp)], hlt, by first | rfl | simp, by rw [e3, Hbl.out], by rw [Ht.out, e1], by rw [e3], ?_⟩
        rw [Ht.out]
        have hS := Hsr.out (ap, cp) (by rw [Htl.out, Hbl.out])
        rw [hS]
        simp only [rowSh, rowSec, e1, e2, e3, e4]
        exact (hE.tail.tail.tail).perm perm_move
      case measure => simp [intOf] <;> omega
    · obtain rfl : k = L.length := by omega
      rw [List.take_length] at hE ⊢
      have hcap := row_capG hE 0 rfl
      obtain ⟨bS, oS, rfl, _⟩ := reads_form (reads_row hE 1 rfl) (by have := HLp.out; omega) (by rw [List.length_map]; have := HLp.out; omega)
      have hjL : which % L.length < L.length := Nat.mod_lt _ HLp.out
      have hjb : which % L.length < bs.length := by omega
      have HG : ∀ w, Ent (rowSh am cm L :: rowSec (some ⟨bS, oS, none⟩) cs bs :: (secRows L bs ++ (rowSh a1 c1 L :: l))) w → w.cell? ⟨bS, oS + which % L.length, none⟩ = some (.slice bs[which % L.length].1 512 bs[which % L.length].2) ∧ Ent (rowB bs[which % L.length].1 bs[which % L.length].2 (shP L[which % L.length].seq L[which % L.length].last L[which % L.length].text) :: l) w := fun w hE => by
        refine ⟨?_, ((Ent.pick hE.tail.tail (secRows_at (L := L) (bs := bs) hjL hjb)).front 1 rfl).tail⟩
        obtain ⟨b', o', e, h⟩ := reads_form (reads_row hE 1 rfl) (by have := HLp.out; omega) (by rw [List.length_map]; have := HLp.out; omega)
        cases e
        exact h _ _ (by rw [List.getElem?_map, List.getElem?_eq_getElem hjb]; rfl)
      have hxj := HLx.out _ (List.getElem_mem hjL)
      generalize bs[which % L.length] = q at HG
      generalize L[which % L.length] = x at HG hxj
      obtain ⟨qa, qc⟩ := q
      obtain ⟨x1, x2, x3⟩ := x
      obtain ⟨hx3, hx1⟩ := hxj
      clear hjb
      have htm : (which : Int).tmod (L.length : Int) = ((which % L.length : Nat) : Int) := by
        rw [Int.tmod_eq_emod_of_nonneg (Int.natCast_nonneg _)]
        rfl
      have hwj : IntKind.i64.wrap ((which % L.length : Nat) : Int) = ((which % L.length : Nat) : Int) := wrap_id (by omega)
      have HJ : ∀ {l' : List HProp} {w : World} (i : Nat), l'[i]? = some (rowSh am cm L) → Ent l' w → Calls Tryd.prog 19 #[.slice am L.length cm] w (Ret fun v w' => v = .tuple #[.string ⟨t.toArray⟩, .bool true] ∧ Ent l' w') := fun i hi h => by
        have h := Join_row HLl.out (fun x hx => by have := (HLx.out x hx).1; omega) (fun x hx => (HLx.out x hx).2) h i hi
        rw [HJ1.out.1, HJ1.out.2] at h
        exact h
      have HJs : ∀ {l' : List HProp} {w : World} (i : Nat), l'[i]? = some (rowSh am cm L) → Ent l' w → Calls Tryd.prog 19 #[.slice am (L.length - 1 : Nat) cm] w (Ret fun v w' => ∃ r, v = .tuple #[.string r, .bool false] ∧ Ent l' w') := fun i hi h => by
        have h := Join_but HLl.out (fun x hx => by have := (HLx.out x hx).1; omega) (fun x hx => (HLx.out x hx).2) h i hi
        rw [HJ2.out] at h
        refine h.mono ?_
        rintro e w' ⟨v, rfl, rfl, h⟩
        exact ⟨_, rfl, _, rfl, h⟩
      have hn1 : IntKind.i64.wrap ((L.length : Int) - 1) = ((L.length - 1 : Nat) : Int) := by rw [wrap_id (by have := HLp.out; omega)]; have := HLp.out; omega
      have hn1' : (L.length : Int) - 1 = ((L.length - 1 : Nat) : Int) := by have := HLp.out; omega
      have hsl := fun w => cut_to (t := 39) Tryd.underlying39 Tryd.sizeOf30 am L.length cm (L.length - 1) (by omega) w
      have hl0 : ((L.length : Int) == 0) = false := by rw [beq_eq_false_iff_ne]; have := HLp.out; omega
      have Hbl := SL.hid hbl
      have hbl' : (bs.length : Int) = (L.length : Int) := by omega
      clear hbl HLa HLx HJ1 HJ2 hkl hlt HLn
      generalize L.length - 1 = n1 at *
      generalize which % L.length = j at *
      have Hsl := SL.hid (shP_len (seq := x1) (last := x2) hx3)
      go_wp2_with (first
        | go_skip
        | (go_at_call 19; refine (HJ 0 rfl hE).mono ?_; clear HJ; rintro e w3 ⟨v, rfl, rfl, hE3⟩)
        | (go_at_call 19; refine (HJs 0 rfl hE3).mono ?_; clear HJs; rintro e w4 ⟨v, rfl, r, rfl, hE4⟩; obtain ⟨hcj, hF⟩ := HG _ hE4; clear HG hE4 hE3))
      have HbL := SL.hid (show (shP x1 x2 x3).length = 512 from Hsl.out)
      have HTt := SL.hid (fun (s i : Nat) (ot : List UInt8) (ch : Bool) (h : Turned (shP x1 x2 x3) s i ot ch) => Turned.tells hx1 hx3 h)
      generalize shP x1 x2 x3 = sb at *
      go_loopw [24, 25] (fun ch i wr => BtRel sb (at_ % 4096) l qa qc ch i wr) (fun _ i _ => 32 - (intOf i).toNat)
      case atStart => exact ⟨0, sb, false, by omega, rfl, rfl, Turned.start _ _, hF⟩
      case round =>
        obtain ⟨k, ot, cb, hk32, rfl, rfl, hT, hE⟩ := hrel
        have HbC := hk32
        have htm : (at_ : Int).tmod 4096 = ((at_ % 4096 : Nat) : Int) := by
          rw [Int.tmod_eq_emod_of_nonneg (Int.natCast_nonneg _)]
          rfl
        have hsp : at_ % 4096 < 4096 := Nat.mod_lt _ (by decide)
        have hlen := hT.1
        have hb5 := HbL.out
        generalize at_ % 4096 = s at *
        by_cases hgo : k < 32
        · clear HbC
          cases hin : decide (((s : Int) + (k : Int)) < 4096) with
          | false =>
            go_wp2_with (first | go_skip)
            go_roundw
            case rel => exact ⟨k + 1, ot, cb, hgo, by simp, rfl, hT.skip, hE⟩
            case measure => simp [intOf]; omega
          | true =>
            cases hbit : (bits .and .u32 ((change : Int) / 2 ^ k) 1 == 1) with
            | false =>
              go_wp2_with (first | go_skip)
              go_roundw
              case rel => exact ⟨k + 1, ot, cb, hgo, by simp, rfl, hT.skip, hE⟩
              case measure => simp [intOf]; omega
            | true =>
              have hin2 : s + k < 4096 := by have := of_decide_eq_true hin; omega
              have hq : ((s : Int) + (k : Int)).tdiv 8 = (((s + k) / 8 : Nat) : Int) := by
                rw [Int.tdiv_eq_ediv_of_nonneg (by omega)]
                omega
              have hr : ((s : Int) + (k : Int)).tmod 8 = (((s + k) % 8 : Nat) : Int) := by
                rw [Int.tmod_eq_emod_of_nonneg (by omega)]
                omega
              have hq2 : ((s : Int) + (k : Int)) / 8 = (((s + k) / 8 : Nat) : Int) := by omega
              have hr2 : ((s : Int) + (k : Int)) % 8 = (((s + k) % 8 : Nat) : Int) := by omega
              obtain ⟨g, cap, cur, hv, hn1, hm1, hs1, ht1, hE2⟩ := hE.fromRow 0 rfl (by omega)
              have hq8 : (s + k) / 8 < ot.length := by omega
              have hr8 : (s + k) % 8 < 8 := by omega
              have hcell : wr.cell? ⟨g, (s + k) / 8, none⟩ = some (bval (ot.getD ((s + k) / 8) 0)) := by
                rw [hE2.cell 0 rfl]
                have h5 : (cur.toList.take (ot.length * 1))[(s + k) / 8]? = some (bval (ot.getD ((s + k) / 8) 0)) := by
                  rw [ht1]
                  simp [bvals, List.getD_eq_getElem?_getD, hq8]
                rw [List.getElem?_take_of_lt (by omega)] at h5
                simpa using h5
              have hfz : wr.frozen? ⟨g, (s + k) / 8, none⟩ = false := hE2.frozen 0 rfl _
              rw [hlen, hb5] at hv
              cases hv
              unfold bval at hcell
              have hT2 := SL.hid (hT.turn hgo (by omega))
              have hf : flip1 ot (s + k) = ot.set ((s + k) / 8) (ot.getD ((s + k) / 8) 0 ^^^ UInt8.ofNat (2 ^ ((s + k) % 8))) := rfl
              have hq512 : (s + k) / 8 < 512 := by omega
              have hqi : (((s + k) / 8 : Nat) : Int) < 512 := by omega
              generalize (s + k) / 8 = q at *
              generalize (s + k) % 8 = r at *
              have Hf := SL.hid hf
              clear hf
              have Hv := SL.hid (flip_val ot q r hq8 hr8)
              have hwq : IntKind.i64.wrap ((q : Nat) : Int) = (q : Int) := by
                simp only [IntKind.wrap, IntKind.bits, IntKind.signed]
                simp
                omega
              go_wp2_with (first | go_skip)
              go_region_law (fail)
              all_goals
                have hE3 := (hE2.setCell 0 rfl q (bval (ot.getD q 0 ^^^ UInt8.ofNat (2 ^ r)))).drew
                have hE4 := hE3.backRow 0 rfl hn1 hm1 hs1 ht1
                replace hE4 := Ent.asFlip hE4 Hf.out
                clear hE3 hE2 hE
                go_wp2
                go_roundw
                case rel =>
                  have e := Hv.out
                  rw [e]
                  refine ⟨k + 1, flip1 ot (s + k), true, hgo, by simp, rfl, hT2.out, ?_⟩
                  simpa [hlen, hb5] using hE4
                case measure => simp [intOf]; omega
        · obtain rfl : k = 32 := by omega
          have hz := HTt.out s 32 ot cb hT
          have HTk : Calls Tryd.prog 14 #[.slice qa 512 qc] wr (Ret fun v w' => v = .tuple #[shV (resS ot), .int .i64 (resSE ot)] ∧ Ent l w') := by
            have h := sTake_any (b := ot) (by omega) ht.cons (fun w h => reads_row h 0 rfl) hE
            rw [hlen, hb5] at h
            refine h.mono ?_
            rintro e w' ⟨v, rfl, rfl, h⟩
            exact ⟨_, rfl, rfl, h.tail⟩
          have hre : resSE ot = if rdOk ot then 0 else 3 := rfl
          rw [hz] at hre
          generalize resS ot = z at HTk
          obtain ⟨z1, z2, z3⟩ := z
          cases cb <;> simp only [Bool.not_false, Bool.not_true, if_true, Bool.false_eq_true, if_false] at hre <;> rw [hre] at HTk <;> simp only [shV] at HTk
          all_goals
            go_wp2_with (first
              | go_skip
              | (go_at_call 14; refine HTk.mono ?_; clear HTk; rintro e w5 ⟨v, rfl, rfl, hE5⟩)
              | (go_at_call 10; refine (wakes05_any ht (hE5.alloc _).tail).mono ?_; rintro e w6 ⟨v, rfl, rfl, hE6⟩))
            go_ret
            exact ⟨_, rfl, rfl, hE6⟩

theorem SheetBack_any {seq : Nat} (hs : seq < 18446744073709551616) (t : List UInt8) {which at_ change : Nat} (hw : which < 256) (ha : at_ < 65536) (hc : change < 4294967296) {l : List HProp} {w : World} (ht : Knows l Table) (hE : Ent l w) :
    Calls Tryd.prog 5 #[.int .u64 seq, .string ⟨t.toArray⟩, .int .u8 which, .int .u16 at_, .int .u32 change] w (Ret fun v w' => v = .bool true ∧ Ent l w') := by
  by_cases h : 5000 < t.length
  · exact SheetBack_great h ht hE
  · exact SheetBack_in hs (by omega) hw ha hc ht hE
theorem SheetBack_int {seq which at_ change : Int} (hs : 0 ≤ seq ∧ seq ≤ 18446744073709551615) (t : ByteArray) (hw : 0 ≤ which ∧ which ≤ 255) (ha : 0 ≤ at_ ∧ at_ ≤ 65535) (hc : 0 ≤ change ∧ change ≤ 4294967295) {l : List HProp} {w : World} (ht : Knows l Table) (hE : Ent l w) :
    Calls Tryd.prog 5 #[.int .u64 seq, .string t, .int .u8 which, .int .u16 at_, .int .u32 change] w (Ret fun v w' => v = .bool true ∧ Ent l w') := by
  obtain ⟨n, rfl⟩ := Int.eq_ofNat_of_zero_le hs.1
  obtain ⟨p, rfl⟩ := Int.eq_ofNat_of_zero_le hw.1
  obtain ⟨q, rfl⟩ := Int.eq_ofNat_of_zero_le ha.1
  obtain ⟨r, rfl⟩ := Int.eq_ofNat_of_zero_le hc.1
  exact SheetBack_any (by omega) t.data.toList (by omega) (by omega) (by omega) ht hE
end Go.Proofs.YtdpfigkjkjjedaaDoor
