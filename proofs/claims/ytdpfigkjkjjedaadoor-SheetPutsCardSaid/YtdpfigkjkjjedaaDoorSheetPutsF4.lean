/-
  The law of sheets and sectors returns true at every input, and each argument reads as it did; the table holds what the program's text lays (the tie is given).
-/
import Derived.Test.YtdpfigkjkjjedaaDoorSheetPutsF3
import Derived.Lib.SmallJoins
import Derived.Test.YtdpfigkjkjjedaaDoorCards
import Derived.Test.YtdpfigkjkjjedaaDoorTie
import Derived.Deep.DeepHandedRow
import Derived.Lib.LaidTab
namespace Go.Proofs.YtdpfigkjkjjedaaDoor
open Go.RowKit Go.SL

set_option maxRecDepth 100000 in
theorem of05_any (s : Sht) {l : List HProp} {w : World} (hE : Ent l w) :
    Calls Tryd.prog 12 #[.agg #[.int .u64 s.seq, .bool s.last, .string ⟨s.text.toArray⟩]] w (Ret fun v w' => v = .agg #[.int .u64 s.seq, .bool s.last, .string ⟨s.text.toArray⟩] ∧ Ent l w') := by
  go_enter Tryd.func12, Tryd.ntmps12
  go_wp2_with (first
    | go_skip
    | ((with_reducible (show Go.wpList _ _ _ (Go.Oper.mk _ (.box _ _) _ _ _ _ :: _) _ _)); refine wpl_box hE rfl rfl rfl ?_; clear hE; intro b1 w hE; simp only [Act.eval, Act.put, List.setIfInBounds_toArray, List.set_cons_zero, List.set_cons_succ, getD_lit, List.getD_cons_succ, List.getD_cons_zero, Value.cells] at hE)
    | ((with_reducible (show Go.wpList _ _ _ (Go.Oper.mk _ (.alloc _) _ _ _ _ :: _) _ _)); refine wpl_alloc hE rfl rfl (by simp [go_sem]; rfl) ?_; clear hE; intro b2 w hE; simp only [Act.eval, Act.put, List.setIfInBounds_toArray, List.set_cons_zero, List.set_cons_succ, getD_lit, List.getD_cons_succ, List.getD_cons_zero, Value.cells] at hE)
    | ((with_reducible (show Go.wpList _ _ _ (Go.Oper.mk _ (.store _ _ _) _ _ _ _ :: _) _ _)); refine wpl_storeW hE 0 rfl rfl rfl (xs := [.int .u64 s.seq, .bool s.last, .string ⟨s.text.toArray⟩]) rfl rfl Tryd.sizeOf30 rfl (by simp [Value.oneCell']) rfl ?_; clear hE; intro w hE; simp only [List.set_cons_zero] at hE)
    | ((with_reducible (show Go.wpList _ _ _ (Go.Oper.mk _ (.load _ _) _ _ _ _ :: _) _ _)); (first | (refine wpl_load1 hE 0 rfl rfl rfl rfl (by simp [go_sem]) rfl ?_) | (refine wpl_load1 hE 1 rfl rfl rfl rfl (by simp [go_sem]) rfl ?_) | (refine wpl_load1 hE 2 rfl rfl rfl rfl (by simp [go_sem]) rfl ?_) | (refine wpl_load1 hE 3 rfl rfl rfl rfl (by simp [go_sem]) rfl ?_) | (refine wpl_load1 hE 4 rfl rfl rfl rfl (by simp [go_sem]) rfl ?_) | (refine wpl_load1 hE 5 rfl rfl rfl rfl (by simp [go_sem]) rfl ?_) | (refine wpl_load1 hE 6 rfl rfl rfl rfl (by simp [go_sem]) rfl ?_) | (refine wpl_load1 hE 7 rfl rfl rfl rfl (by simp [go_sem]) rfl ?_))))
  refine bodyPost_ret (results_cellA rfl hE 0 rfl rfl Tryd.isAgg30 Tryd.sizeOf30 rfl) rfl ?_
  exact ⟨_, rfl, rfl, hE.tail.tail⟩
theorem conv_row {l : List HProp} {w : World} (hE : Ent l w) (i : Nat) {ao : Option Addr} {c : Nat} {bs : List UInt8} (hi : l[i]? = some (rowB ao c bs)) : (convert 26 9 (.slice ao bs.length c)).run Tryd.prog w = .ok (.string ⟨bs.toArray⟩) w :=
  bytesToString_reads (P := Tryd.prog) Tryd.underlying26 Tryd.underlying5 Tryd.underlying9 (reads_row hE i hi) rfl

set_option maxRecDepth 100000 in
set_option maxHeartbeats 4000000 in
theorem SheetPuts_great {s : Sht} {b : List UInt8} (hg : 1000 < s.text.length ∨ 1000 < b.length) {l : List HProp} {w : World} (ht : Knows l Table) (hE : Ent l w) :
    Calls Tryd.prog 3 #[.agg #[.int .u64 s.seq, .bool s.last, .string ⟨s.text.toArray⟩], .string ⟨b.toArray⟩] w (Ret fun v w' => v = .bool true ∧ Ent l w') := by
  by_cases h1 : 1000 < s.text.length
  · have hd : decide ((1000 : Int) < (s.text.length : Int)) = true := decide_eq_true (by omega)
    go_enter Tryd.func3, Tryd.ntmps3
    go_wp2_with (first
      | go_skip
      | ((with_reducible (show Go.wpList _ _ _ (Go.Oper.mk _ (.box _ _) _ _ _ _ :: _) _ _)); refine wpl_box hE rfl rfl rfl ?_; clear hE; intro b1 w hE; simp only [Act.eval, Act.put, List.setIfInBounds_toArray, List.set_cons_zero, List.set_cons_succ, getD_lit, List.getD_cons_succ, List.getD_cons_zero, Value.cells] at hE)
      | ((with_reducible (show Go.wpList _ _ _ (Go.Oper.mk _ (.load _ _) _ _ _ _ :: _) _ _)); (first | (refine wpl_load1 hE 0 rfl rfl rfl rfl (by simp [go_sem]) rfl ?_) | (refine wpl_load1 hE 1 rfl rfl rfl rfl (by simp [go_sem]) rfl ?_) | (refine wpl_load1 hE 2 rfl rfl rfl rfl (by simp [go_sem]) rfl ?_) | (refine wpl_load1 hE 3 rfl rfl rfl rfl (by simp [go_sem]) rfl ?_) | (refine wpl_load1 hE 4 rfl rfl rfl rfl (by simp [go_sem]) rfl ?_) | (refine wpl_load1 hE 5 rfl rfl rfl rfl (by simp [go_sem]) rfl ?_) | (refine wpl_load1 hE 6 rfl rfl rfl rfl (by simp [go_sem]) rfl ?_) | (refine wpl_load1 hE 7 rfl rfl rfl rfl (by simp [go_sem]) rfl ?_)))
      | (go_at_call 10; refine (wakes05_any ht hE.tail).mono ?_; clear hE; rintro e w2 ⟨v, rfl, rfl, hE⟩))
    go_ret
    exact ⟨_, rfl, rfl, hE⟩
  · have hd : decide ((1000 : Int) < (s.text.length : Int)) = false := decide_eq_false (by omega)
    have hd2 : decide ((1000 : Int) < (b.length : Int)) = true := decide_eq_true (by omega)
    go_enter Tryd.func3, Tryd.ntmps3
    go_wp2_with (first
      | go_skip
      | ((with_reducible (show Go.wpList _ _ _ (Go.Oper.mk _ (.box _ _) _ _ _ _ :: _) _ _)); refine wpl_box hE rfl rfl rfl ?_; clear hE; intro b1 w hE; simp only [Act.eval, Act.put, List.setIfInBounds_toArray, List.set_cons_zero, List.set_cons_succ, getD_lit, List.getD_cons_succ, List.getD_cons_zero, Value.cells] at hE)
      | ((with_reducible (show Go.wpList _ _ _ (Go.Oper.mk _ (.load _ _) _ _ _ _ :: _) _ _)); (first | (refine wpl_load1 hE 0 rfl rfl rfl rfl (by simp [go_sem]) rfl ?_) | (refine wpl_load1 hE 1 rfl rfl rfl rfl (by simp [go_sem]) rfl ?_) | (refine wpl_load1 hE 2 rfl rfl rfl rfl (by simp [go_sem]) rfl ?_) | (refine wpl_load1 hE 3 rfl rfl rfl rfl (by simp [go_sem]) rfl ?_) | (refine wpl_load1 hE 4 rfl rfl rfl rfl (by simp [go_sem]) rfl ?_) | (refine wpl_load1 hE 5 rfl rfl rfl rfl (by simp [go_sem]) rfl ?_) | (refine wpl_load1 hE 6 rfl rfl rfl rfl (by simp [go_sem]) rfl ?_) | (refine wpl_load1 hE 7 rfl rfl rfl rfl (by simp [go_sem]) rfl ?_)))
      | (go_at_call 10; refine (wakes05_any ht hE.tail).mono ?_; clear hE; rintro e w2 ⟨v, rfl, rfl, hE⟩))
    go_ret
    exact ⟨_, rfl, rfl, hE⟩
theorem zs_rsht : zeroSize Tryd.prog 24 = some 3 := by kernel_rfl
theorem rTake_any {b : List UInt8} (hb : b.length ≤ 1000000) {l : List HProp} {w : World} (hE : Ent l w) :
    Calls Tryd.prog 15 #[.string ⟨b.toArray⟩] w (Ret fun v w' => v = .tuple #[shV (resD b), .int .i64 (resDE b)] ∧ Ent l w') := by
  cases h : b.length == 512 with
  | true => exact rTake_512 (by simpa using h) hE
  | false => exact rTake_short hb h hE

set_option maxRecDepth 100000 in
set_option maxHeartbeats 4000000 in
attribute [-go_sem] Instr.loadAt Go.run_equalIn_agg in
theorem SheetPuts_long {s : Sht} (hs : s.seq < 18446744073709551616) {b : List UInt8} (h1 : s.text.length ≤ 1000) (h2 : b.length ≤ 1000) (hlen : 497 < s.text.length) {l : List HProp} {w : World} (ht : Knows l Table) (hE : Ent l w) :
    Calls Tryd.prog 3 #[.agg #[.int .u64 s.seq, .bool s.last, .string ⟨s.text.toArray⟩], .string ⟨b.toArray⟩] w (Ret fun v w' => v = .bool true ∧ Ent l w') := by
  have hd : decide ((1000 : Int) < (s.text.length : Int)) = false := decide_eq_false (by omega)
  have hd2 : decide ((1000 : Int) < (b.length : Int)) = false := decide_eq_false (by omega)
  have Hs := SL.hid hs
  have H1 := SL.hid h1
  have H2 := SL.hid h2
  have hd3 : decide ((497 : Int) < (s.text.length : Int)) = true := decide_eq_true (by omega)
  have hd4 : decide ((s.text.length : Int) ≤ 497) = false := decide_eq_false (by omega)
  have Hlen := SL.hid hlen
  clear hlen
  clear hs h1 h2
  obtain ⟨sq, la, tt⟩ := s
  simp only at *
  go_enter Tryd.func3, Tryd.ntmps3
  go_wp2_with (first
    | go_skip
    | ((with_reducible (show Go.wpList _ _ _ (Go.Oper.mk _ (.box _ _) _ _ _ _ :: _) _ _)); refine wpl_box hE rfl rfl rfl ?_; clear hE; intro b1 w hE; simp only [Act.eval, Act.put, List.setIfInBounds_toArray, List.set_cons_zero, List.set_cons_succ, getD_lit, List.getD_cons_succ, List.getD_cons_zero, Value.cells] at hE)
    | ((with_reducible (show Go.wpList _ _ _ (Go.Oper.mk _ (.load 24 _) _ _ _ _ :: _) _ _)); refine wpl_loadW hE 0 rfl rfl rfl rfl Tryd.isAgg24 Tryd.sizeOf24 rfl ?_)
    | ((with_reducible (show Go.wpList _ _ _ (Go.Oper.mk _ (.load _ _) _ _ _ _ :: _) _ _)); (first | (refine wpl_load1 hE 0 rfl rfl rfl rfl (by simp [go_sem]) rfl ?_) | (refine wpl_load1 hE 1 rfl rfl rfl rfl (by simp [go_sem]) rfl ?_) | (refine wpl_load1 hE 2 rfl rfl rfl rfl (by simp [go_sem]) rfl ?_) | (refine wpl_load1 hE 3 rfl rfl rfl rfl (by simp [go_sem]) rfl ?_) | (refine wpl_load1 hE 4 rfl rfl rfl rfl (by simp [go_sem]) rfl ?_) | (refine wpl_load1 hE 5 rfl rfl rfl rfl (by simp [go_sem]) rfl ?_) | (refine wpl_load1 hE 6 rfl rfl rfl rfl (by simp [go_sem]) rfl ?_) | (refine wpl_load1 hE 7 rfl rfl rfl rfl (by simp [go_sem]) rfl ?_)))
    | (go_at_call 12; refine (of05_any ⟨sq, la, tt⟩ hE).mono ?_; clear hE; rintro e w2 ⟨v, rfl, rfl, hE⟩)
    | (go_at_call 11; refine (sPut_long Hlen.out hE).mono ?_; clear hE; rintro e w3 ⟨v, rfl, rfl, hE⟩))
  refine wp_region_held_drew (S := (fun w' => ((Instr.loadAt 9 (.pointer (some ⟨b1, 2, none⟩))).run Tryd.prog w' = .ok (.string ⟨tt.toArray⟩) w'))) (by kernel_rfl) (atVm hE.drew (by repeat (first | exact List.Mem.head _ | refine List.Mem.tail _ ?_)) (by simp [go_sem]) rfl) (fun hS => ?_)
  refine takeW 0 ⟨some 27, .fieldAddr 24 (.tmp 2) 2, 0, "law.go:33", #[], none⟩ ?_ (.inl ⟨by rfl, ?_⟩) hS ?_
  rotate_left
  · (intro w hSw; (try dsimp only at hSw); go_simp; (try with_reducible rfl))
  try simp only [Act.put, sb, s0, sz]
  refine takeW 1 ⟨some 28, .load 9 (.tmp 27), 9, "law.go:33", #[⟨0, .data⟩], none⟩ ?_ (.inl ⟨by rfl, ?_⟩) hS ?_
  rotate_left
  · (intro w hSw; (try dsimp only at hSw); go_simp; (try with_reducible rfl))
  try simp only [Act.put, sb, s0, sz]
  refine takeW 2 ⟨some 29, .call { callee := .builtin .len, args := #[.tmp 28], argTypes := #[9] }, 3, "law.go:33", #[⟨1, .data⟩], none⟩ ?_ (.inl ⟨by rfl, ?_⟩) hS ?_
  rotate_left
  · (intro w hSw; (try dsimp only at hSw); go_simp; (try with_reducible rfl))
  try simp only [Act.put, sb, s0, sz]
  refine takeW 3 ⟨some 30, .binOp .gtr 3 (.tmp 29) (.const (.int .i64 497)) 3, 4, "law.go:33", #[⟨2, .data⟩], none⟩ ?_ (.inl ⟨by rfl, ?_⟩) hS ?_
  rotate_left
  · (intro w hSw; (try dsimp only at hSw); go_simp; (try with_reducible rfl))
  try simp only [Act.put, sb, s0, sz]
  refine takeW 4 ⟨some 31, .move (.tmp 30), 4, "law.go:33", #[⟨3, .data⟩], none⟩ ?_ (.inl ⟨by rfl, ?_⟩) hS ?_
  rotate_left
  · (intro w hSw; (try dsimp only at hSw); go_simp; (try with_reducible rfl))
  try simp only [Act.put, sb, s0, sz]
  refine takeW 5 ⟨some 32, .move (.tmp 5), 26, "law.go:33", #[⟨4, .guard⟩], some (4, true)⟩ ?_ (.inl ⟨by rfl, ?_⟩) hS ?_
  rotate_left
  · (intro w hSw; (try dsimp only at hSw); go_simp; (try with_reducible rfl))
  try simp only [Act.put, sb, s0, sz]
  refine takeW 6 ⟨some 33, .call { callee := .builtin .len, args := #[.tmp 32], argTypes := #[26] }, 3, "law.go:33", #[⟨5, .data⟩, ⟨4, .guard⟩], some (4, true)⟩ ?_ (.inl ⟨by rfl, ?_⟩) hS ?_
  rotate_left
  · (intro w hSw; (try dsimp only at hSw); go_simp; (try with_reducible rfl))
  try simp only [Act.put, sb, s0, sz]
  refine takeW 7 ⟨some 34, .binOp .neq 3 (.tmp 33) (.const (.int .i64 0)) 3, 4, "law.go:33", #[⟨6, .data⟩, ⟨4, .guard⟩], some (4, true)⟩ ?_ (.inl ⟨by rfl, ?_⟩) hS ?_
  rotate_left
  · (intro w hSw; (try dsimp only at hSw); go_simp; (try with_reducible rfl))
  try simp only [Act.put, sb, s0, sz]
  refine takeW 8 ⟨some 35, .move (.tmp 34), 4, "law.go:33", #[⟨7, .data⟩, ⟨4, .chain⟩, ⟨4, .guard⟩], some (4, true)⟩ ?_ (.inl ⟨by rfl, ?_⟩) hS ?_
  rotate_left
  · (intro w hSw; (try dsimp only at hSw); go_simp; (try with_reducible rfl))
  try simp only [Act.put, sb, s0, sz]
  refine takeW 9 ⟨some 36, .move (.tmp 6), 27, "law.go:33", #[⟨8, .guard⟩], some (8, false)⟩ ?_ (.inl ⟨by rfl, ?_⟩) hS ?_
  rotate_left
  · (intro w hSw; (try dsimp only at hSw); go_simp; (try with_reducible rfl))
  try simp only [Act.put, sb, s0, sz]
  refine takeW 10 ⟨some 37, .binOp .neq 27 (.tmp 36) (.const (.int .i64 6)) 27, 4, "law.go:33", #[⟨9, .data⟩, ⟨8, .guard⟩], some (8, false)⟩ ?_ (.inl ⟨by rfl, ?_⟩) hS ?_
  rotate_left
  · (intro w hSw; (try dsimp only at hSw); go_simp; (try with_reducible rfl))
  try simp only [Act.put, sb, s0, sz]
  refine takeW 11 ⟨some 38, .pick (.tmp 35) (.const (.bool true)) (.tmp 37), 4, "law.go:33", #[⟨8, .data⟩, ⟨10, .data⟩, ⟨4, .guard⟩], some (4, true)⟩ ?_ (.inl ⟨by rfl, ?_⟩) hS ?_
  rotate_left
  · (intro w hSw; (try dsimp only at hSw); go_simp; (try with_reducible rfl))
  try simp only [Act.put, sb, s0, sz]
  refine takeW 12 ⟨some 39, .pick (.tmp 31) (.tmp 38) (.const (.bool false)), 4, "law.go:33", #[⟨4, .data⟩, ⟨11, .data⟩], none⟩ ?_ (.inl ⟨by rfl, ?_⟩) hS ?_
  rotate_left
  · (intro w hSw; (try dsimp only at hSw); go_simp; (try with_reducible rfl))
  try simp only [Act.put, sb, s0, sz]
  refine takeW 13 ⟨some 40, .move (.tmp 39), 4, "law.go:33", #[⟨12, .data⟩, ⟨8, .chain⟩], none⟩ ?_ (.inl ⟨by rfl, ?_⟩) hS ?_
  rotate_left
  · (intro w hSw; (try dsimp only at hSw); go_simp; (try with_reducible rfl))
  try simp only [Act.put, sb, s0, sz]
  refine takeW 14 ⟨some 41, .fieldAddr 24 (.tmp 2) 2, 0, "law.go:33", #[⟨13, .guard⟩], some (13, false)⟩ ?_ (.inl ⟨by rfl, ?_⟩) hS ?_
  rotate_left
  · (intro w hSw; (try dsimp only at hSw); go_simp; (try with_reducible rfl))
  try simp only [Act.put, sb, s0, sz]
  refine takeW 15 ⟨some 42, .load 9 (.tmp 41), 9, "law.go:33", #[⟨14, .data⟩, ⟨13, .guard⟩], some (13, false)⟩ ?_ (.inl ⟨by rfl, ?_⟩) hS ?_
  rotate_left
  · (intro w hSw; (try dsimp only at hSw); go_simp; (try with_reducible rfl))
  try simp only [Act.put, sb, s0, sz]
  refine takeW 16 ⟨some 43, .call { callee := .builtin .len, args := #[.tmp 42], argTypes := #[9] }, 3, "law.go:33", #[⟨15, .data⟩, ⟨13, .guard⟩], some (13, false)⟩ ?_ (.inl ⟨by rfl, ?_⟩) hS ?_
  rotate_left
  · (intro w hSw; (try dsimp only at hSw); go_simp; (try with_reducible rfl))
  try simp only [Act.put, sb, s0, sz]
  refine takeW 17 ⟨some 44, .binOp .leq 3 (.tmp 43) (.const (.int .i64 497)) 3, 4, "law.go:33", #[⟨16, .data⟩, ⟨13, .guard⟩], some (13, false)⟩ ?_ (.inl ⟨by rfl, ?_⟩) hS ?_
  rotate_left
  · (intro w hSw; (try dsimp only at hSw); go_simp; (try with_reducible rfl))
  try simp only [Act.put, sb, s0, sz]
  refine takeW 18 ⟨some 45, .move (.tmp 44), 4, "law.go:33", #[⟨17, .data⟩, ⟨13, .chain⟩, ⟨13, .guard⟩], some (13, false)⟩ ?_ (.inl ⟨by rfl, ?_⟩) hS ?_
  rotate_left
  · (intro w hSw; (try dsimp only at hSw); go_simp; (try with_reducible rfl))
  try simp only [Act.put, sb, s0, sz]
  refine takeW 19 ⟨some 46, .move (.tmp 5), 26, "law.go:33", #[⟨18, .guard⟩], some (18, true)⟩ undef (.inr ⟨by rfl, rfl⟩) hS ?_; try simp only [Act.put, sb, s0, sz]
  refine takeW 20 ⟨some 47, .convert 26 9 (.tmp 46), 9, "law.go:33", #[⟨19, .data⟩, ⟨18, .guard⟩], some (18, true)⟩ undef (.inr ⟨by rfl, rfl⟩) hS ?_; try simp only [Act.put, sb, s0, sz]
  refine takeW 21 ⟨some 48, .load 24 (.tmp 2), 24, "law.go:33", #[⟨18, .guard⟩], some (18, true)⟩ undef (.inr ⟨by rfl, rfl⟩) hS ?_; try simp only [Act.put, sb, s0, sz]
  refine takeW 22 ⟨some 49, .call { callee := .value (.func 13), args := #[.tmp 48], argTypes := #[24] }, 9, "law.go:33", #[⟨21, .data⟩, ⟨18, .chain⟩, ⟨18, .guard⟩], some (18, true)⟩ undef (.inr ⟨by rfl, rfl⟩) hS ?_; try simp only [Act.put, sb, s0, sz]
  refine takeW 23 ⟨some 50, .binOp .neq 9 (.tmp 47) (.tmp 49) 9, 4, "law.go:33", #[⟨20, .data⟩, ⟨22, .data⟩, ⟨18, .guard⟩], some (18, true)⟩ undef (.inr ⟨by rfl, rfl⟩) hS ?_; try simp only [Act.put, sb, s0, sz]
  refine takeW 24 ⟨some 51, .move (.tmp 50), 4, "law.go:33", #[⟨23, .data⟩, ⟨22, .chain⟩, ⟨18, .guard⟩], some (18, true)⟩ undef (.inr ⟨by rfl, rfl⟩) hS ?_; try simp only [Act.put, sb, s0, sz]
  refine takeW 25 ⟨some 52, .move (.tmp 6), 27, "law.go:33", #[⟨24, .guard⟩], some (24, false)⟩ undef (.inr ⟨by rfl, rfl⟩) hS ?_; try simp only [Act.put, sb, s0, sz]
  refine takeW 26 ⟨some 53, .binOp .neq 27 (.tmp 52) (.const (.int .i64 0)) 27, 4, "law.go:33", #[⟨25, .data⟩, ⟨24, .guard⟩], some (24, false)⟩ undef (.inr ⟨by rfl, rfl⟩) hS ?_; try simp only [Act.put, sb, s0, sz]
  refine takeW 27 ⟨some 54, .pick (.tmp 51) (.const (.bool true)) (.tmp 53), 4, "law.go:33", #[⟨24, .data⟩, ⟨26, .data⟩, ⟨18, .guard⟩], some (18, true)⟩ undef (.inr ⟨by rfl, rfl⟩) hS ?_; try simp only [Act.put, sb, s0, sz]
  refine takeW 28 ⟨some 55, .pick (.tmp 45) (.tmp 54) (.const (.bool false)), 4, "law.go:33", #[⟨18, .data⟩, ⟨27, .data⟩, ⟨13, .guard⟩], some (13, false)⟩ ?_ (.inl ⟨by rfl, ?_⟩) hS ?_
  rotate_left
  · (intro w hSw; (try dsimp only at hSw); go_simp; (try with_reducible rfl))
  try simp only [Act.put, sb, s0, sz]
  refine takeW 29 ⟨some 56, .pick (.tmp 40) (.const (.bool true)) (.tmp 55), 4, "law.go:33", #[⟨13, .data⟩, ⟨28, .data⟩], none⟩ ?_ (.inl ⟨by rfl, ?_⟩) hS ?_
  rotate_left
  · (intro w hSw; (try dsimp only at hSw); go_simp; (try with_reducible rfl))
  try simp only [Act.put, sb, s0, sz]
  refine wpAnyH_done (by kernel_rfl) ?_ _
  have hEr := hE.drew
  generalize World.drew _ = wr at hEr ⊢

  obtain ⟨e1, e2⟩ := res_same b
  have E1 := SL.hid e1
  have E2 := SL.hid e2
  clear e1 e2
  have hE4 : Ent (pt b1 (.cells #[.int .u64 sq, .bool la, .string ⟨tt.toArray⟩] 24) :: l) wr := hEr
  clear hEr
  have HT : ∀ {l' : List HProp} {w : World} {ao : Option Addr} {c : Nat}, Knows l' Table → Knows l' (reads (.slice ao b.length c) b.length (bvals b)) → Ent l' w → Calls Tryd.prog 14 #[.slice ao b.length c] w (Ret fun v w' => v = .tuple #[shV (resS b), .int .i64 (resSE b)] ∧ Ent l' w') := fun h1 h2 h3 => sTake_any (by have := H2.out; omega) h1 h2 h3
  have HR : ∀ {l : List HProp} {w : World}, Ent l w → Calls Tryd.prog 15 #[.string ⟨b.toArray⟩] w (Ret fun v w' => v = .tuple #[shV (resS b), .int .i64 (resSE b)] ∧ Ent l w') := fun h => by
    have h := rTake_any (b := b) (by have := H2.out; omega) h
    rw [← E1.out, ← E2.out] at h
    exact h
  obtain ⟨z, hz⟩ : ∃ z, resS b = z := ⟨_, rfl⟩
  obtain ⟨z1, z2, z3⟩ := z
  rw [hz] at HT HR
  simp only [shV] at HT HR
  generalize resSE b = er at *
  have hcm : ∀ w, (Op.equalIn 10000 30 (.agg #[.int .u64 z1, .bool z2, .string ⟨z3.toArray⟩]) (.agg #[.int .u64 z1, .bool z2, .string ⟨z3.toArray⟩])).run Tryd.prog w = .ok true w := fun w => by
    have := eqSht ⟨z1, z2, z3⟩ ⟨z1, z2, z3⟩ w
    rw [beq_self_eq_true] at this
    exact this
  go_wp2_with (first
    | go_skip
    | ((with_reducible (show Go.wpList _ _ _ (Go.Oper.mk _ (.convert _ _ _) _ _ _ _ :: _) _ _)); refine wpl_strB hE4 rfl rfl (ys := b) rfl ?_; clear hE4; intro bv cv w5 hE5)
    | (go_at_call 14; refine (HT (ht.cons.cons) (fun _ h => h.views 0 rfl) hE5).mono ?_; clear hE5 HT; rintro e w6 ⟨v, rfl, rfl, hE⟩)
    | ((with_reducible (show Go.wpList _ _ _ (Go.Oper.mk _ (.alloc 30) _ _ _ _ :: _) _ _)); refine wpl_allocN hE rfl rfl (n := 3) zs_sht ?_; clear hE; intro b7 cs w7 hq hE)
    | ((with_reducible (show Go.wpList _ _ _ (Go.Oper.mk _ (.store 30 _ _) _ _ _ _ :: _) _ _)); refine wpl_storeN hE 0 rfl rfl rfl rfl (xs := [.int .u64 z1, .bool z2, .string ⟨z3.toArray⟩]) rfl Tryd.sizeOf30 rfl (by simp [Value.oneCell']) hq ?_; clear hE hq; intro w8 hE; simp only [List.set_cons_zero] at hE)
    | (go_at_call 15; refine (HR hE).mono ?_; clear hE HR; rintro e w9 ⟨v, rfl, rfl, hE⟩)
    | ((with_reducible (show Go.wpList _ _ _ (Go.Oper.mk _ (.alloc 24) _ _ _ _ :: _) _ _)); refine wpl_allocN hE rfl rfl (n := 3) zs_rsht ?_; clear hE; intro b9 cs w10 hq hE)
    | ((with_reducible (show Go.wpList _ _ _ (Go.Oper.mk _ (.store 24 _ _) _ _ _ _ :: _) _ _)); refine wpl_storeN hE 0 rfl rfl rfl rfl (xs := [.int .u64 z1, .bool z2, .string ⟨z3.toArray⟩]) rfl Tryd.sizeOf24 rfl (by simp [Value.oneCell']) hq ?_; clear hE hq; intro w11 hE; simp only [List.set_cons_zero] at hE))
  refine wp_region_held_drew (S := (fun w' => ((Instr.loadAt 30 (.pointer (some ⟨b7, 0, none⟩))).run Tryd.prog w' = .ok (.agg #[.int .u64 z1, .bool z2, .string ⟨z3.toArray⟩]) w') ∧ ((Instr.loadAt 24 (.pointer (some ⟨b9, 0, none⟩))).run Tryd.prog w' = .ok (.agg #[.int .u64 z1, .bool z2, .string ⟨z3.toArray⟩]) w'))) (by kernel_rfl) ⟨(atWm hE.drew (by repeat (first | exact List.Mem.head _ | refine List.Mem.tail _ ?_)) Tryd.isAgg30 Tryd.sizeOf30 rfl), (atWm hE.drew (by repeat (first | exact List.Mem.head _ | refine List.Mem.tail _ ?_)) Tryd.isAgg24 Tryd.sizeOf24 rfl)⟩ (fun hS => ?_)
  refine takeW 0 ⟨some 68, .load 30 (.tmp 7), 30, "law.go:38", #[], none⟩ ?_ (.inl ⟨by rfl, ?_⟩) hS ?_
  rotate_left
  · (intro w hSw; (try dsimp only at hSw); go_simp; (try with_reducible rfl))
  try simp only [Act.put, sb, s0, sz]
  refine takeW 1 ⟨some 69, .load 24 (.tmp 9), 24, "law.go:38", #[], none⟩ ?_ (.inl ⟨by rfl, ?_⟩) hS ?_
  rotate_left
  · (intro w hSw; (try dsimp only at hSw); go_simp; (try with_reducible rfl))
  try simp only [Act.put, sb, s0, sz]
  refine wpAnyH_ready (rs := [2]) (by kernel_rfl) (by simp) ?_
  refine (AllReadyH.cons (o := { dst := some 70, op := Go.Op.call { callee := Go.Callee.value (Go.Operand.func 12), args := #[Go.Operand.tmp 69], argTypes := #[24] }, type := 30, pos := "law.go:38", after := #[{ on := 1, ground := Go.Ground.data }], guard := none }) rfl (fun K hK => ?_) AllReadyH.nil)
  (go_simp; refine (of05_any ⟨z1, z2, z3⟩ hE.drew).mono ?_; rintro e wa ⟨v, rfl, rfl, hEa⟩)
  refine hK.out _ _ ⟨(atWm hEa (by repeat (first | exact List.Mem.head _ | refine List.Mem.tail _ ?_)) Tryd.isAgg30 Tryd.sizeOf30 rfl), (atWm hEa (by repeat (first | exact List.Mem.head _ | refine List.Mem.tail _ ?_)) Tryd.isAgg24 Tryd.sizeOf24 rfl)⟩ (fun hS => ?_)
  clear hK K
  try simp only [Act.put, sb, s0, sz]
  refine takeW 3 ⟨some 71, .binOp .eql 30 (.tmp 68) (.tmp 70) 30, 4, "law.go:38", #[⟨0, .data⟩, ⟨2, .data⟩], none⟩ ?_ (.inl ⟨by rfl, ?_⟩) hS ?_
  rotate_left
  · (intro w hSw; (try dsimp only at hSw); go_simp; (try with_reducible rfl))
  try simp only [Act.put, sb, s0, sz]
  refine takeW 4 ⟨some 72, .move (.tmp 71), 4, "law.go:38", #[⟨3, .data⟩, ⟨2, .chain⟩], none⟩ ?_ (.inl ⟨by rfl, ?_⟩) hS ?_
  rotate_left
  · (intro w hSw; (try dsimp only at hSw); go_simp; (try with_reducible rfl))
  try simp only [Act.put, sb, s0, sz]
  refine takeW 5 ⟨some 73, .move (.tmp 8), 27, "law.go:38", #[⟨4, .guard⟩], some (4, true)⟩ ?_ (.inl ⟨by rfl, ?_⟩) hS ?_
  rotate_left
  · (intro w hSw; (try dsimp only at hSw); go_simp; (try with_reducible rfl))
  try simp only [Act.put, sb, s0, sz]
  refine takeW 6 ⟨some 74, .move (.tmp 10), 27, "law.go:38", #[⟨4, .guard⟩], some (4, true)⟩ ?_ (.inl ⟨by rfl, ?_⟩) hS ?_
  rotate_left
  · (intro w hSw; (try dsimp only at hSw); go_simp; (try with_reducible rfl))
  try simp only [Act.put, sb, s0, sz]
  refine takeW 7 ⟨some 75, .binOp .eql 27 (.tmp 73) (.tmp 74) 27, 4, "law.go:38", #[⟨5, .data⟩, ⟨6, .data⟩, ⟨4, .guard⟩], some (4, true)⟩ ?_ (.inl ⟨by rfl, ?_⟩) hS ?_
  rotate_left
  · (intro w hSw; (try dsimp only at hSw); go_simp; (try with_reducible rfl))
  try simp only [Act.put, sb, s0, sz]
  refine takeW 8 ⟨some 76, .pick (.tmp 72) (.tmp 75) (.const (.bool false)), 4, "law.go:38", #[⟨4, .data⟩, ⟨7, .data⟩], none⟩ ?_ (.inl ⟨by rfl, ?_⟩) hS ?_
  rotate_left
  · (intro w hSw; (try dsimp only at hSw); go_simp; (try with_reducible rfl))
  try simp only [Act.put, sb, s0, sz]
  refine takeW 9 ⟨some 77, .move (.tmp 76), 4, "law.go:38", #[⟨8, .data⟩, ⟨4, .chain⟩], none⟩ ?_ (.inl ⟨by rfl, ?_⟩) hS ?_
  rotate_left
  · (intro w hSw; (try dsimp only at hSw); go_simp; (try with_reducible rfl))
  try simp only [Act.put, sb, s0, sz]
  refine wpAnyH_ready (rs := [10]) (by kernel_rfl) (by simp) ?_
  refine (AllReadyH.cons (o := { dst := some 78, op := Go.Op.call { callee := Go.Callee.value (Go.Operand.func 10), args := #[], argTypes := #[] }, type := 4, pos := "law.go:38", after := #[{ on := 9, ground := Go.Ground.chain }, { on := 9, ground := Go.Ground.guard }], guard := some (9, true) }) rfl (fun K hK => ?_) AllReadyH.nil)
  (go_simp; refine (wakes05_any (ht.cons.cons.cons.cons) hEa).mono ?_; rintro e wb ⟨v, rfl, rfl, hEb⟩)
  refine hK.out _ _ ⟨(atWm hEb (by repeat (first | exact List.Mem.head _ | refine List.Mem.tail _ ?_)) Tryd.isAgg30 Tryd.sizeOf30 rfl), (atWm hEb (by repeat (first | exact List.Mem.head _ | refine List.Mem.tail _ ?_)) Tryd.isAgg24 Tryd.sizeOf24 rfl)⟩ (fun hS => ?_)
  clear hK K
  try simp only [Act.put, sb, s0, sz]
  refine takeW 11 ⟨some 79, .pick (.tmp 77) (.tmp 78) (.const (.bool false)), 4, "law.go:38", #[⟨9, .data⟩, ⟨10, .data⟩], none⟩ ?_ (.inl ⟨by rfl, ?_⟩) hS ?_
  rotate_left
  · (intro w hSw; (try dsimp only at hSw); go_simp; (try with_reducible rfl))
  try simp only [Act.put, sb, s0, sz]
  refine takeW 12 ⟨some 4, .assign (.tmp 79), 4, "law.go:38", #[⟨11, .data⟩, ⟨10, .chain⟩, ⟨0, .phase⟩, ⟨1, .phase⟩, ⟨2, .phase⟩, ⟨3, .phase⟩, ⟨4, .phase⟩, ⟨5, .phase⟩, ⟨6, .phase⟩, ⟨7, .phase⟩, ⟨8, .phase⟩, ⟨9, .phase⟩, ⟨10, .phase⟩, ⟨11, .phase⟩], none⟩ ?_ (.inl ⟨by rfl, ?_⟩) hS ?_
  rotate_left
  · (intro w hSw; (try dsimp only at hSw); go_simp; (try with_reducible rfl))
  try simp only [Act.put, sb, s0, sz]
  refine wpAnyH_done (by kernel_rfl) ?_ _
  go_wp2
  go_ret
  exact ⟨_, rfl, rfl, hEb.tail.tail.tail.tail⟩

set_option maxRecDepth 100000 in
set_option maxHeartbeats 4000000 in
attribute [-go_sem] Instr.loadAt Go.run_equalIn_agg in
theorem SheetPuts_short {s : Sht} (hs : s.seq < 18446744073709551616) {b : List UInt8} (h1 : s.text.length ≤ 1000) (h2 : b.length ≤ 1000) (hlen : s.text.length ≤ 497) {l : List HProp} {w : World} (ht : Knows l Table) (hE : Ent l w) :
    Calls Tryd.prog 3 #[.agg #[.int .u64 s.seq, .bool s.last, .string ⟨s.text.toArray⟩], .string ⟨b.toArray⟩] w (Ret fun v w' => v = .bool true ∧ Ent l w') := by
  have hd : decide ((1000 : Int) < (s.text.length : Int)) = false := decide_eq_false (by omega)
  have hd2 : decide ((1000 : Int) < (b.length : Int)) = false := decide_eq_false (by omega)
  have Hs := SL.hid hs
  have H1 := SL.hid h1
  have H2 := SL.hid h2
  have hd3 : decide ((497 : Int) < (s.text.length : Int)) = false := decide_eq_false (by omega)
  have hd4 : decide ((s.text.length : Int) ≤ 497) = true := decide_eq_true (by omega)
  have Hlen := SL.hid hlen
  clear hlen
  clear hs h1 h2
  obtain ⟨sq, la, tt⟩ := s
  simp only at *
  go_enter Tryd.func3, Tryd.ntmps3
  go_wp2_with (first
    | go_skip
    | ((with_reducible (show Go.wpList _ _ _ (Go.Oper.mk _ (.box _ _) _ _ _ _ :: _) _ _)); refine wpl_box hE rfl rfl rfl ?_; clear hE; intro b1 w hE; simp only [Act.eval, Act.put, List.setIfInBounds_toArray, List.set_cons_zero, List.set_cons_succ, getD_lit, List.getD_cons_succ, List.getD_cons_zero, Value.cells] at hE)
    | ((with_reducible (show Go.wpList _ _ _ (Go.Oper.mk _ (.load 24 _) _ _ _ _ :: _) _ _)); refine wpl_loadW hE 0 rfl rfl rfl rfl Tryd.isAgg24 Tryd.sizeOf24 rfl ?_)
    | ((with_reducible (show Go.wpList _ _ _ (Go.Oper.mk _ (.load _ _) _ _ _ _ :: _) _ _)); (first | (refine wpl_load1 hE 0 rfl rfl rfl rfl (by simp [go_sem]) rfl ?_) | (refine wpl_load1 hE 1 rfl rfl rfl rfl (by simp [go_sem]) rfl ?_) | (refine wpl_load1 hE 2 rfl rfl rfl rfl (by simp [go_sem]) rfl ?_) | (refine wpl_load1 hE 3 rfl rfl rfl rfl (by simp [go_sem]) rfl ?_) | (refine wpl_load1 hE 4 rfl rfl rfl rfl (by simp [go_sem]) rfl ?_) | (refine wpl_load1 hE 5 rfl rfl rfl rfl (by simp [go_sem]) rfl ?_) | (refine wpl_load1 hE 6 rfl rfl rfl rfl (by simp [go_sem]) rfl ?_) | (refine wpl_load1 hE 7 rfl rfl rfl rfl (by simp [go_sem]) rfl ?_)))
    | (go_at_call 12; refine (of05_any ⟨sq, la, tt⟩ hE).mono ?_; clear hE; rintro e w2 ⟨v, rfl, rfl, hE⟩)
    | (go_at_call 11; refine (sPut_ok la Hs.out Hlen.out ht.cons hE).mono ?_; clear hE; rintro e w3 ⟨v, rfl, ap, cp, rfl, hE⟩))
  refine wp_region_held_drew (S := (fun w' => ((Instr.loadAt 9 (.pointer (some ⟨b1, 2, none⟩))).run Tryd.prog w' = .ok (.string ⟨tt.toArray⟩) w') ∧ ((Instr.loadAt 24 (.pointer (some ⟨b1, 0, none⟩))).run Tryd.prog w' = .ok (.agg #[.int .u64 sq, .bool la, .string ⟨tt.toArray⟩]) w') ∧ ((convert 26 9 (.slice ap (shP sq la tt).length cp)).run Tryd.prog w' = .ok (.string ⟨(shP sq la tt).toArray⟩) w'))) (by kernel_rfl) ⟨(atVm hE.drew (by repeat (first | exact List.Mem.head _ | refine List.Mem.tail _ ?_)) (by simp [go_sem]) rfl), (atWm hE.drew (by repeat (first | exact List.Mem.head _ | refine List.Mem.tail _ ?_)) Tryd.isAgg24 Tryd.sizeOf24 rfl), (conv_row hE.drew 0 rfl)⟩ (fun hS => ?_)
  refine takeW 0 ⟨some 27, .fieldAddr 24 (.tmp 2) 2, 0, "law.go:33", #[], none⟩ ?_ (.inl ⟨by rfl, ?_⟩) hS ?_
  rotate_left
  · (intro w hSw; (try dsimp only at hSw); go_simp; (try with_reducible rfl))
  try simp only [Act.put, sb, s0, sz]
  refine takeW 1 ⟨some 28, .load 9 (.tmp 27), 9, "law.go:33", #[⟨0, .data⟩], none⟩ ?_ (.inl ⟨by rfl, ?_⟩) hS ?_
  rotate_left
  · (intro w hSw; (try dsimp only at hSw); go_simp; (try with_reducible rfl))
  try simp only [Act.put, sb, s0, sz]
  refine takeW 2 ⟨some 29, .call { callee := .builtin .len, args := #[.tmp 28], argTypes := #[9] }, 3, "law.go:33", #[⟨1, .data⟩], none⟩ ?_ (.inl ⟨by rfl, ?_⟩) hS ?_
  rotate_left
  · (intro w hSw; (try dsimp only at hSw); go_simp; (try with_reducible rfl))
  try simp only [Act.put, sb, s0, sz]
  refine takeW 3 ⟨some 30, .binOp .gtr 3 (.tmp 29) (.const (.int .i64 497)) 3, 4, "law.go:33", #[⟨2, .data⟩], none⟩ ?_ (.inl ⟨by rfl, ?_⟩) hS ?_
  rotate_left
  · (intro w hSw; (try dsimp only at hSw); go_simp; (try with_reducible rfl))
  try simp only [Act.put, sb, s0, sz]
  refine takeW 4 ⟨some 31, .move (.tmp 30), 4, "law.go:33", #[⟨3, .data⟩], none⟩ ?_ (.inl ⟨by rfl, ?_⟩) hS ?_
  rotate_left
  · (intro w hSw; (try dsimp only at hSw); go_simp; (try with_reducible rfl))
  try simp only [Act.put, sb, s0, sz]
  refine takeW 5 ⟨some 32, .move (.tmp 5), 26, "law.go:33", #[⟨4, .guard⟩], some (4, true)⟩ undef (.inr ⟨by rfl, rfl⟩) hS ?_; try simp only [Act.put, sb, s0, sz]
  refine takeW 6 ⟨some 33, .call { callee := .builtin .len, args := #[.tmp 32], argTypes := #[26] }, 3, "law.go:33", #[⟨5, .data⟩, ⟨4, .guard⟩], some (4, true)⟩ undef (.inr ⟨by rfl, rfl⟩) hS ?_; try simp only [Act.put, sb, s0, sz]
  refine takeW 7 ⟨some 34, .binOp .neq 3 (.tmp 33) (.const (.int .i64 0)) 3, 4, "law.go:33", #[⟨6, .data⟩, ⟨4, .guard⟩], some (4, true)⟩ undef (.inr ⟨by rfl, rfl⟩) hS ?_; try simp only [Act.put, sb, s0, sz]
  refine takeW 8 ⟨some 35, .move (.tmp 34), 4, "law.go:33", #[⟨7, .data⟩, ⟨4, .chain⟩, ⟨4, .guard⟩], some (4, true)⟩ undef (.inr ⟨by rfl, rfl⟩) hS ?_; try simp only [Act.put, sb, s0, sz]
  refine takeW 9 ⟨some 36, .move (.tmp 6), 27, "law.go:33", #[⟨8, .guard⟩], some (8, false)⟩ undef (.inr ⟨by rfl, rfl⟩) hS ?_; try simp only [Act.put, sb, s0, sz]
  refine takeW 10 ⟨some 37, .binOp .neq 27 (.tmp 36) (.const (.int .i64 6)) 27, 4, "law.go:33", #[⟨9, .data⟩, ⟨8, .guard⟩], some (8, false)⟩ undef (.inr ⟨by rfl, rfl⟩) hS ?_; try simp only [Act.put, sb, s0, sz]
  refine takeW 11 ⟨some 38, .pick (.tmp 35) (.const (.bool true)) (.tmp 37), 4, "law.go:33", #[⟨8, .data⟩, ⟨10, .data⟩, ⟨4, .guard⟩], some (4, true)⟩ undef (.inr ⟨by rfl, rfl⟩) hS ?_; try simp only [Act.put, sb, s0, sz]
  refine takeW 12 ⟨some 39, .pick (.tmp 31) (.tmp 38) (.const (.bool false)), 4, "law.go:33", #[⟨4, .data⟩, ⟨11, .data⟩], none⟩ ?_ (.inl ⟨by rfl, ?_⟩) hS ?_
  rotate_left
  · (intro w hSw; (try dsimp only at hSw); go_simp; (try with_reducible rfl))
  try simp only [Act.put, sb, s0, sz]
  refine takeW 13 ⟨some 40, .move (.tmp 39), 4, "law.go:33", #[⟨12, .data⟩, ⟨8, .chain⟩], none⟩ ?_ (.inl ⟨by rfl, ?_⟩) hS ?_
  rotate_left
  · (intro w hSw; (try dsimp only at hSw); go_simp; (try with_reducible rfl))
  try simp only [Act.put, sb, s0, sz]
  refine takeW 14 ⟨some 41, .fieldAddr 24 (.tmp 2) 2, 0, "law.go:33", #[⟨13, .guard⟩], some (13, false)⟩ ?_ (.inl ⟨by rfl, ?_⟩) hS ?_
  rotate_left
  · (intro w hSw; (try dsimp only at hSw); go_simp; (try with_reducible rfl))
  try simp only [Act.put, sb, s0, sz]
  refine takeW 15 ⟨some 42, .load 9 (.tmp 41), 9, "law.go:33", #[⟨14, .data⟩, ⟨13, .guard⟩], some (13, false)⟩ ?_ (.inl ⟨by rfl, ?_⟩) hS ?_
  rotate_left
  · (intro w hSw; (try dsimp only at hSw); go_simp; (try with_reducible rfl))
  try simp only [Act.put, sb, s0, sz]
  refine takeW 16 ⟨some 43, .call { callee := .builtin .len, args := #[.tmp 42], argTypes := #[9] }, 3, "law.go:33", #[⟨15, .data⟩, ⟨13, .guard⟩], some (13, false)⟩ ?_ (.inl ⟨by rfl, ?_⟩) hS ?_
  rotate_left
  · (intro w hSw; (try dsimp only at hSw); go_simp; (try with_reducible rfl))
  try simp only [Act.put, sb, s0, sz]
  refine takeW 17 ⟨some 44, .binOp .leq 3 (.tmp 43) (.const (.int .i64 497)) 3, 4, "law.go:33", #[⟨16, .data⟩, ⟨13, .guard⟩], some (13, false)⟩ ?_ (.inl ⟨by rfl, ?_⟩) hS ?_
  rotate_left
  · (intro w hSw; (try dsimp only at hSw); go_simp; (try with_reducible rfl))
  try simp only [Act.put, sb, s0, sz]
  refine takeW 18 ⟨some 45, .move (.tmp 44), 4, "law.go:33", #[⟨17, .data⟩, ⟨13, .chain⟩, ⟨13, .guard⟩], some (13, false)⟩ ?_ (.inl ⟨by rfl, ?_⟩) hS ?_
  rotate_left
  · (intro w hSw; (try dsimp only at hSw); go_simp; (try with_reducible rfl))
  try simp only [Act.put, sb, s0, sz]
  refine takeW 19 ⟨some 46, .move (.tmp 5), 26, "law.go:33", #[⟨18, .guard⟩], some (18, true)⟩ ?_ (.inl ⟨by rfl, ?_⟩) hS ?_
  rotate_left
  · (intro w hSw; (try dsimp only at hSw); go_simp; (try with_reducible rfl))
  try simp only [Act.put, sb, s0, sz]
  refine takeW 20 ⟨some 47, .convert 26 9 (.tmp 46), 9, "law.go:33", #[⟨19, .data⟩, ⟨18, .guard⟩], some (18, true)⟩ ?_ (.inl ⟨by rfl, ?_⟩) hS ?_
  rotate_left
  · (intro w hSw; (try dsimp only at hSw); go_simp; (try with_reducible rfl))
  try simp only [Act.put, sb, s0, sz]
  refine takeW 21 ⟨some 48, .load 24 (.tmp 2), 24, "law.go:33", #[⟨18, .guard⟩], some (18, true)⟩ ?_ (.inl ⟨by rfl, ?_⟩) hS ?_
  rotate_left
  · (intro w hSw; (try dsimp only at hSw); go_simp; (try with_reducible rfl))
  try simp only [Act.put, sb, s0, sz]
  refine wpAnyH_ready (rs := [22]) (by kernel_rfl) (by simp) ?_
  refine (AllReadyH.cons (o := { dst := some 49, op := Go.Op.call { callee := Go.Callee.value (Go.Operand.func 13), args := #[Go.Operand.tmp 48], argTypes := #[24] }, type := 9, pos := "law.go:33", after := #[{ on := 21, ground := Go.Ground.data }, { on := 18, ground := Go.Ground.chain }, { on := 18, ground := Go.Ground.guard }], guard := some (18, true) }) rfl (fun K hK => ?_) AllReadyH.nil)
  (go_simp; refine (rPut_ok la Hs.out Hlen.out hE.drew).mono ?_; rintro e w4 ⟨v, rfl, rfl, hE4⟩)
  refine hK.out _ _ ⟨(atVm hE4 (by repeat (first | exact List.Mem.head _ | refine List.Mem.tail _ ?_)) (by simp [go_sem]) rfl), (atWm hE4 (by repeat (first | exact List.Mem.head _ | refine List.Mem.tail _ ?_)) Tryd.isAgg24 Tryd.sizeOf24 rfl), (conv_row hE4 0 rfl)⟩ (fun hS => ?_)
  clear hK K
  try simp only [Act.put, sb, s0, sz]
  refine takeW 23 ⟨some 50, .binOp .neq 9 (.tmp 47) (.tmp 49) 9, 4, "law.go:33", #[⟨20, .data⟩, ⟨22, .data⟩, ⟨18, .guard⟩], some (18, true)⟩ ?_ (.inl ⟨by rfl, ?_⟩) hS ?_
  rotate_left
  · (intro w hSw; (try dsimp only at hSw); go_simp; (try with_reducible rfl))
  try simp only [Act.put, sb, s0, sz]
  refine takeW 24 ⟨some 51, .move (.tmp 50), 4, "law.go:33", #[⟨23, .data⟩, ⟨22, .chain⟩, ⟨18, .guard⟩], some (18, true)⟩ ?_ (.inl ⟨by rfl, ?_⟩) hS ?_
  rotate_left
  · (intro w hSw; (try dsimp only at hSw); go_simp; (try with_reducible rfl))
  try simp only [Act.put, sb, s0, sz]
  refine takeW 25 ⟨some 52, .move (.tmp 6), 27, "law.go:33", #[⟨24, .guard⟩], some (24, false)⟩ ?_ (.inl ⟨by rfl, ?_⟩) hS ?_
  rotate_left
  · (intro w hSw; (try dsimp only at hSw); go_simp; (try with_reducible rfl))
  try simp only [Act.put, sb, s0, sz]
  refine takeW 26 ⟨some 53, .binOp .neq 27 (.tmp 52) (.const (.int .i64 0)) 27, 4, "law.go:33", #[⟨25, .data⟩, ⟨24, .guard⟩], some (24, false)⟩ ?_ (.inl ⟨by rfl, ?_⟩) hS ?_
  rotate_left
  · (intro w hSw; (try dsimp only at hSw); go_simp; (try with_reducible rfl))
  try simp only [Act.put, sb, s0, sz]
  refine takeW 27 ⟨some 54, .pick (.tmp 51) (.const (.bool true)) (.tmp 53), 4, "law.go:33", #[⟨24, .data⟩, ⟨26, .data⟩, ⟨18, .guard⟩], some (18, true)⟩ ?_ (.inl ⟨by rfl, ?_⟩) hS ?_
  rotate_left
  · (intro w hSw; (try dsimp only at hSw); go_simp; (try with_reducible rfl))
  try simp only [Act.put, sb, s0, sz]
  refine takeW 28 ⟨some 55, .pick (.tmp 45) (.tmp 54) (.const (.bool false)), 4, "law.go:33", #[⟨18, .data⟩, ⟨27, .data⟩, ⟨13, .guard⟩], some (13, false)⟩ ?_ (.inl ⟨by rfl, ?_⟩) hS ?_
  rotate_left
  · (intro w hSw; (try dsimp only at hSw); go_simp; (try with_reducible rfl))
  try simp only [Act.put, sb, s0, sz]
  refine takeW 29 ⟨some 56, .pick (.tmp 40) (.const (.bool true)) (.tmp 55), 4, "law.go:33", #[⟨13, .data⟩, ⟨28, .data⟩], none⟩ ?_ (.inl ⟨by rfl, ?_⟩) hS ?_
  rotate_left
  · (intro w hSw; (try dsimp only at hSw); go_simp; (try with_reducible rfl))
  try simp only [Act.put, sb, s0, sz]
  refine wpAnyH_done (by kernel_rfl) ?_ _
  have hEr := hE4.tail
  clear hE4
  generalize hwr : w4 = wr at hEr ⊢
  clear hwr

  obtain ⟨e1, e2⟩ := res_same b
  have E1 := SL.hid e1
  have E2 := SL.hid e2
  clear e1 e2
  have hE4 : Ent (pt b1 (.cells #[.int .u64 sq, .bool la, .string ⟨tt.toArray⟩] 24) :: l) wr := hEr
  clear hEr
  have HT : ∀ {l' : List HProp} {w : World} {ao : Option Addr} {c : Nat}, Knows l' Table → Knows l' (reads (.slice ao b.length c) b.length (bvals b)) → Ent l' w → Calls Tryd.prog 14 #[.slice ao b.length c] w (Ret fun v w' => v = .tuple #[shV (resS b), .int .i64 (resSE b)] ∧ Ent l' w') := fun h1 h2 h3 => sTake_any (by have := H2.out; omega) h1 h2 h3
  have HR : ∀ {l : List HProp} {w : World}, Ent l w → Calls Tryd.prog 15 #[.string ⟨b.toArray⟩] w (Ret fun v w' => v = .tuple #[shV (resS b), .int .i64 (resSE b)] ∧ Ent l w') := fun h => by
    have h := rTake_any (b := b) (by have := H2.out; omega) h
    rw [← E1.out, ← E2.out] at h
    exact h
  obtain ⟨z, hz⟩ : ∃ z, resS b = z := ⟨_, rfl⟩
  obtain ⟨z1, z2, z3⟩ := z
  rw [hz] at HT HR
  simp only [shV] at HT HR
  generalize resSE b = er at *
  have hcm : ∀ w, (Op.equalIn 10000 30 (.agg #[.int .u64 z1, .bool z2, .string ⟨z3.toArray⟩]) (.agg #[.int .u64 z1, .bool z2, .string ⟨z3.toArray⟩])).run Tryd.prog w = .ok true w := fun w => by
    have := eqSht ⟨z1, z2, z3⟩ ⟨z1, z2, z3⟩ w
    rw [beq_self_eq_true] at this
    exact this
  go_wp2_with (first
    | go_skip
    | ((with_reducible (show Go.wpList _ _ _ (Go.Oper.mk _ (.convert _ _ _) _ _ _ _ :: _) _ _)); refine wpl_strB hE4 rfl rfl (ys := b) rfl ?_; clear hE4; intro bv cv w5 hE5)
    | (go_at_call 14; refine (HT (ht.cons.cons) (fun _ h => h.views 0 rfl) hE5).mono ?_; clear hE5 HT; rintro e w6 ⟨v, rfl, rfl, hE⟩)
    | ((with_reducible (show Go.wpList _ _ _ (Go.Oper.mk _ (.alloc 30) _ _ _ _ :: _) _ _)); refine wpl_allocN hE rfl rfl (n := 3) zs_sht ?_; clear hE; intro b7 cs w7 hq hE)
    | ((with_reducible (show Go.wpList _ _ _ (Go.Oper.mk _ (.store 30 _ _) _ _ _ _ :: _) _ _)); refine wpl_storeN hE 0 rfl rfl rfl rfl (xs := [.int .u64 z1, .bool z2, .string ⟨z3.toArray⟩]) rfl Tryd.sizeOf30 rfl (by simp [Value.oneCell']) hq ?_; clear hE hq; intro w8 hE; simp only [List.set_cons_zero] at hE)
    | (go_at_call 15; refine (HR hE).mono ?_; clear hE HR; rintro e w9 ⟨v, rfl, rfl, hE⟩)
    | ((with_reducible (show Go.wpList _ _ _ (Go.Oper.mk _ (.alloc 24) _ _ _ _ :: _) _ _)); refine wpl_allocN hE rfl rfl (n := 3) zs_rsht ?_; clear hE; intro b9 cs w10 hq hE)
    | ((with_reducible (show Go.wpList _ _ _ (Go.Oper.mk _ (.store 24 _ _) _ _ _ _ :: _) _ _)); refine wpl_storeN hE 0 rfl rfl rfl rfl (xs := [.int .u64 z1, .bool z2, .string ⟨z3.toArray⟩]) rfl Tryd.sizeOf24 rfl (by simp [Value.oneCell']) hq ?_; clear hE hq; intro w11 hE; simp only [List.set_cons_zero] at hE))
  refine wp_region_held_drew (S := (fun w' => ((Instr.loadAt 30 (.pointer (some ⟨b7, 0, none⟩))).run Tryd.prog w' = .ok (.agg #[.int .u64 z1, .bool z2, .string ⟨z3.toArray⟩]) w') ∧ ((Instr.loadAt 24 (.pointer (some ⟨b9, 0, none⟩))).run Tryd.prog w' = .ok (.agg #[.int .u64 z1, .bool z2, .string ⟨z3.toArray⟩]) w'))) (by kernel_rfl) ⟨(atWm hE.drew (by repeat (first | exact List.Mem.head _ | refine List.Mem.tail _ ?_)) Tryd.isAgg30 Tryd.sizeOf30 rfl), (atWm hE.drew (by repeat (first | exact List.Mem.head _ | refine List.Mem.tail _ ?_)) Tryd.isAgg24 Tryd.sizeOf24 rfl)⟩ (fun hS => ?_)
  refine takeW 0 ⟨some 68, .load 30 (.tmp 7), 30, "law.go:38", #[], none⟩ ?_ (.inl ⟨by rfl, ?_⟩) hS ?_
  rotate_left
  · (intro w hSw; (try dsimp only at hSw); go_simp; (try with_reducible rfl))
  try simp only [Act.put, sb, s0, sz]
  refine takeW 1 ⟨some 69, .load 24 (.tmp 9), 24, "law.go:38", #[], none⟩ ?_ (.inl ⟨by rfl, ?_⟩) hS ?_
  rotate_left
  · (intro w hSw; (try dsimp only at hSw); go_simp; (try with_reducible rfl))
  try simp only [Act.put, sb, s0, sz]
  refine wpAnyH_ready (rs := [2]) (by kernel_rfl) (by simp) ?_
  refine (AllReadyH.cons (o := { dst := some 70, op := Go.Op.call { callee := Go.Callee.value (Go.Operand.func 12), args := #[Go.Operand.tmp 69], argTypes := #[24] }, type := 30, pos := "law.go:38", after := #[{ on := 1, ground := Go.Ground.data }], guard := none }) rfl (fun K hK => ?_) AllReadyH.nil)
  (go_simp; refine (of05_any ⟨z1, z2, z3⟩ hE.drew).mono ?_; rintro e wa ⟨v, rfl, rfl, hEa⟩)
  refine hK.out _ _ ⟨(atWm hEa (by repeat (first | exact List.Mem.head _ | refine List.Mem.tail _ ?_)) Tryd.isAgg30 Tryd.sizeOf30 rfl), (atWm hEa (by repeat (first | exact List.Mem.head _ | refine List.Mem.tail _ ?_)) Tryd.isAgg24 Tryd.sizeOf24 rfl)⟩ (fun hS => ?_)
  clear hK K
  try simp only [Act.put, sb, s0, sz]
  refine takeW 3 ⟨some 71, .binOp .eql 30 (.tmp 68) (.tmp 70) 30, 4, "law.go:38", #[⟨0, .data⟩, ⟨2, .data⟩], none⟩ ?_ (.inl ⟨by rfl, ?_⟩) hS ?_
  rotate_left
  · (intro w hSw; (try dsimp only at hSw); go_simp; (try with_reducible rfl))
  try simp only [Act.put, sb, s0, sz]
  refine takeW 4 ⟨some 72, .move (.tmp 71), 4, "law.go:38", #[⟨3, .data⟩, ⟨2, .chain⟩], none⟩ ?_ (.inl ⟨by rfl, ?_⟩) hS ?_
  rotate_left
  · (intro w hSw; (try dsimp only at hSw); go_simp; (try with_reducible rfl))
  try simp only [Act.put, sb, s0, sz]
  refine takeW 5 ⟨some 73, .move (.tmp 8), 27, "law.go:38", #[⟨4, .guard⟩], some (4, true)⟩ ?_ (.inl ⟨by rfl, ?_⟩) hS ?_
  rotate_left
  · (intro w hSw; (try dsimp only at hSw); go_simp; (try with_reducible rfl))
  try simp only [Act.put, sb, s0, sz]
  refine takeW 6 ⟨some 74, .move (.tmp 10), 27, "law.go:38", #[⟨4, .guard⟩], some (4, true)⟩ ?_ (.inl ⟨by rfl, ?_⟩) hS ?_
  rotate_left
  · (intro w hSw; (try dsimp only at hSw); go_simp; (try with_reducible rfl))
  try simp only [Act.put, sb, s0, sz]
  refine takeW 7 ⟨some 75, .binOp .eql 27 (.tmp 73) (.tmp 74) 27, 4, "law.go:38", #[⟨5, .data⟩, ⟨6, .data⟩, ⟨4, .guard⟩], some (4, true)⟩ ?_ (.inl ⟨by rfl, ?_⟩) hS ?_
  rotate_left
  · (intro w hSw; (try dsimp only at hSw); go_simp; (try with_reducible rfl))
  try simp only [Act.put, sb, s0, sz]
  refine takeW 8 ⟨some 76, .pick (.tmp 72) (.tmp 75) (.const (.bool false)), 4, "law.go:38", #[⟨4, .data⟩, ⟨7, .data⟩], none⟩ ?_ (.inl ⟨by rfl, ?_⟩) hS ?_
  rotate_left
  · (intro w hSw; (try dsimp only at hSw); go_simp; (try with_reducible rfl))
  try simp only [Act.put, sb, s0, sz]
  refine takeW 9 ⟨some 77, .move (.tmp 76), 4, "law.go:38", #[⟨8, .data⟩, ⟨4, .chain⟩], none⟩ ?_ (.inl ⟨by rfl, ?_⟩) hS ?_
  rotate_left
  · (intro w hSw; (try dsimp only at hSw); go_simp; (try with_reducible rfl))
  try simp only [Act.put, sb, s0, sz]
  refine wpAnyH_ready (rs := [10]) (by kernel_rfl) (by simp) ?_
  refine (AllReadyH.cons (o := { dst := some 78, op := Go.Op.call { callee := Go.Callee.value (Go.Operand.func 10), args := #[], argTypes := #[] }, type := 4, pos := "law.go:38", after := #[{ on := 9, ground := Go.Ground.chain }, { on := 9, ground := Go.Ground.guard }], guard := some (9, true) }) rfl (fun K hK => ?_) AllReadyH.nil)
  (go_simp; refine (wakes05_any (ht.cons.cons.cons.cons) hEa).mono ?_; rintro e wb ⟨v, rfl, rfl, hEb⟩)
  refine hK.out _ _ ⟨(atWm hEb (by repeat (first | exact List.Mem.head _ | refine List.Mem.tail _ ?_)) Tryd.isAgg30 Tryd.sizeOf30 rfl), (atWm hEb (by repeat (first | exact List.Mem.head _ | refine List.Mem.tail _ ?_)) Tryd.isAgg24 Tryd.sizeOf24 rfl)⟩ (fun hS => ?_)
  clear hK K
  try simp only [Act.put, sb, s0, sz]
  refine takeW 11 ⟨some 79, .pick (.tmp 77) (.tmp 78) (.const (.bool false)), 4, "law.go:38", #[⟨9, .data⟩, ⟨10, .data⟩], none⟩ ?_ (.inl ⟨by rfl, ?_⟩) hS ?_
  rotate_left
  · (intro w hSw; (try dsimp only at hSw); go_simp; (try with_reducible rfl))
  try simp only [Act.put, sb, s0, sz]
  refine takeW 12 ⟨some 4, .assign (.tmp 79), 4, "law.go:38", #[⟨11, .data⟩, ⟨10, .chain⟩, ⟨0, .phase⟩, ⟨1, .phase⟩, ⟨2, .phase⟩, ⟨3, .phase⟩, ⟨4, .phase⟩, ⟨5, .phase⟩, ⟨6, .phase⟩, ⟨7, .phase⟩, ⟨8, .phase⟩, ⟨9, .phase⟩, ⟨10, .phase⟩, ⟨11, .phase⟩], none⟩ ?_ (.inl ⟨by rfl, ?_⟩) hS ?_
  rotate_left
  · (intro w hSw; (try dsimp only at hSw); go_simp; (try with_reducible rfl))
  try simp only [Act.put, sb, s0, sz]
  refine wpAnyH_done (by kernel_rfl) ?_ _
  go_wp2
  go_ret
  exact ⟨_, rfl, rfl, hEb.tail.tail.tail.tail⟩

theorem SheetPuts_any {s : Sht} (hs : s.seq < 18446744073709551616) (b : List UInt8) {l : List HProp} {w : World} (ht : Knows l Table) (hE : Ent l w) :
    Calls Tryd.prog 3 #[.agg #[.int .u64 s.seq, .bool s.last, .string ⟨s.text.toArray⟩], .string ⟨b.toArray⟩] w (Ret fun v w' => v = .bool true ∧ Ent l w') := by
  by_cases hg : 1000 < s.text.length ∨ 1000 < b.length
  · exact SheetPuts_great hg ht hE
  · by_cases hl : 497 < s.text.length
    · exact SheetPuts_long hs (by omega) (by omega) hl ht hE
    · exact SheetPuts_short hs (by omega) (by omega) (by omega) ht hE
end Go.Proofs.YtdpfigkjkjjedaaDoor
namespace Go.Proofs.YtdpfigkjkjjedaaDoor
open Go.RowKit Go.SL Go.ChangeShapes Go.WideShapes Go.Deep
section
variable {H : Type} {enc : TypeId × Value → H} {w : World} {held : Bool}

theorem trod_u64 {fuel : Nat} {cs : List Value} {y : DataW H × List MemPlace} (h : DataW.trod enc Tryd.prog w 0 (fun _ => true) held fuel 22 cs = some y) : ∃ n : Nat, n < 18446744073709551616 ∧ cs = [.int .u64 n] := by
  obtain ⟨n, e, _, hw⟩ := DataW.trod_int Tryd.underlying22 h
  have b : 0 ≤ n ∧ n ≤ 18446744073709551615 := by simpa [Lit.wf, IntKind.min, IntKind.max, IntKind.signed, IntKind.bits] using hw
  exact ⟨n.toNat, by omega, by rw [e, Int.toNat_of_nonneg b.1]⟩
set_option maxRecDepth 100000 in
theorem open_sht {r : Reach} {b0 : Nat} {v : Value} {d : DataW H} {ps : List MemPlace} (hval : Value.okWide Tryd.prog w r b0 24 v) (h : DataW.Trod enc Tryd.prog w 0 (fun _ => true) held 24 v d ps) :
    ∃ s : Sht, s.seq < 18446744073709551616 ∧ v = .agg #[.int .u64 s.seq, .bool s.last, .string ⟨s.text.toArray⟩] := by
  obtain ⟨v0, v1, v2, y0, y1, y2, n, rfl, _, _, h0, h1, h2⟩ := Go.Joins.open_agg3 Tryd.underlying24 (by kernel_rfl) (by kernel_rfl) hval h
  obtain ⟨a, ha, q0⟩ := trod_u64 h0
  obtain ⟨b, q1, _⟩ := DataW.trod_bool Tryd.underlying4 h1
  obtain ⟨c, q2, _, _⟩ := DataW.trod_string Tryd.underlying9 h2
  simp only [List.cons.injEq, and_true] at q0 q1 q2
  subst q0 q1 q2
  exact ⟨⟨a, b, c.data.toList⟩, ha, rfl⟩
end
end Go.Proofs.YtdpfigkjkjjedaaDoor
namespace Go.Proofs.YtdpfigkjkjjedaaDoor.sheetPuts
open Go.ChangeShapes Go.WideShapes Go.ChangeAt Go.RowKit Go.SL
open Go.ChangeMaps (open_string shut_string)

theorem own : ownKnob Tryd.prog.godebug = none := by kernel_rfl
theorem laidOut : laidOutB Tryd.prog = true := by kernel_rfl
theorem g0 : Tryd.prog.globalNamed "armarium/crc.halves" = some 0 := by kernel_rfl
theorem gt0 : (Tryd.prog.globals[0]?).map (·.type) = some 135 := by kernel_rfl
theorem gc0 : Tryd.prog.cellsOf 135 = 16 := by kernel_rfl
theorem ge0 : Tryd.prog.cellsOf 47 = 1 := by kernel_rfl
theorem table0 {W : World} (h : laidMetH Tryd.prog Rows.sheetPutsRow.laid W) : Lib.TabIs Tryd.prog W "armarium/crc.halves" .u32 halvesI :=
  Lib.tabIs_of_head g0 gt0 Tryd.underlying135 Tryd.underlying47 ge0 gc0 h

set_option maxRecDepth 100000 in
theorem contract (H : Type) (enc : TypeId × Value → H) (W : World) (base : Nat) (args : Array Value) (ds gs : List (DataW H)) (before : List MemPlace)
    (hval : ∀ (j : Nat) t v, Tryd.f3.params[j]? = some t → args[j]? = some v → Value.okWide Tryd.prog W .any base t v)
    (hW : DataW.Whole enc Tryd.prog Tryd.f3.params.toList Rows.sheetPutsSpec.vars false W args.toList ds gs before) (hL : laidMetH Tryd.prog Rows.sheetPutsRow.laid W) :
    Calls Tryd.prog 3 args W fun e W' => ∃ v, e = .returned v ∧ Rows.sheetPutsSpec.post enc Tryd.prog Tryd.f3 false true false false W args v W' := by
  have hW' := hW
  obtain ⟨p, q, hA0, hV, rfl, hfz, hnd⟩ := hW
  have hA : DataW.TrodAll enc Tryd.prog W 0 (fun _ => true) true Tryd.f3.params.toList args.toList ds p := hA0
  rw [Tryd.params3] at hA hval
  obtain ⟨v0, vs0, d0, ds0, p0, q0, hargs, rfl, rfl, h0, r0⟩ := trodAll_cons hA
  obtain ⟨v1, vs1, d1, ds1, p1, q1, rfl, rfl, rfl, h1, r1⟩ := trodAll_cons r0
  obtain ⟨rfl, rfl, rfl⟩ := trodAll_nil r1
  obtain rfl : args = #[v0, v1] := by cases args; simp_all
  obtain ⟨rfl, rfl⟩ := trodVars_none hV
  have k0 := h0
  have lt0 : ∀ x ∈ p0, x.block < W.heap.size := by obtain ⟨m, hm⟩ := k0; exact DataW.trod_lt m _ _ _ hm
  have k1 := h1
  have lt1 : ∀ x ∈ p1, x.block < W.heap.size := by obtain ⟨m, hm⟩ := k1; exact DataW.trod_lt m _ _ _ hm
  obtain ⟨s, gs, rfl⟩ := open_sht (hval 0 24 v0 rfl rfl) h0
  obtain ⟨b, rfl, rfl, rfl, wb⟩ := open_string Tryd.underlying9 (hval 1 9 v1 rfl rfl) h1
  clear hA0
  refine (SheetPuts_any gs b.data.toList (knows_table (table_of (table0 hL) g0)) (Ent.start W)).mono ?_
  rintro e W' ⟨v, rfl, rfl, hE⟩
  have bel := hE.below 0 rfl
  exact ⟨_, rfl, _, _, _, [], _, [], hW', trodAll_mk1 (shut_bool Tryd.underlying4 _), (trodAll_cons_mk (Below.trod laidOut (by kernel_rfl) (of_decide_eq_true (by kernel_rfl)) k0 bel lt0) (trodAll_cons_mk (Below.trod laidOut (by kernel_rfl) (of_decide_eq_true (by kernel_rfl)) k1 bel lt1) trodAll_mk0)), rfl, bel.frame _, fun h => by cases h⟩

noncomputable def laidWorld (os : Os) : World :=
  { World.holding Tryd.prog os ⟨#[], #[], []⟩ with heap := ((World.holding Tryd.prog os ⟨#[], #[], []⟩).heap).modify 0 (fun o => match o with | .cells _ t frozen => .cells ((halvesI : List Int).map fun z => Value.int .u32 z).toArray t frozen | o => o) }
theorem laid_met (os : Os) : laidMet Tryd.prog Rows.sheetPutsRow.laid ((laidWorld os).forCall (fun _ _ => 0) ⟨#[], #[.agg #[.int .u64 0, .bool false, .string ⟨#[]⟩], .string ⟨#[]⟩], []⟩).memory :=
  laidMet_of_run' 8 (by kernel_rfl) (by kernel_rfl)
theorem readings (os : Os) {H : Type} (enc : TypeId × Value → H) : ∃ places, DataW.whole enc Tryd.prog ((laidWorld os).forCall (fun _ _ => 0) ⟨#[], #[.agg #[.int .u64 0, .bool false, .string ⟨#[]⟩], .string ⟨#[]⟩], []⟩).memory Tryd.f3.params.toList Rows.sheetPutsSpec.vars false (#[.agg #[.int .u64 0, .bool false, .string ⟨#[]⟩], .string ⟨#[]⟩] : Array Value).toList 8 = some ([.agg [.lit (.int .u64 0), .lit (.bool false), .lit (.string [])], .lit (.string [])], [], places) :=
  ⟨[], by kernel_rfl⟩

set_option maxRecDepth 100000 in
theorem lifted (os : Os) (started : os.Started) (H : Type) (enc : TypeId × Value → H) (F : Stop.Interp) :
    ReturnsInHanded {} Tryd.checked os 3 .any ((OpenSpec.ofChange Rows.sheetPutsSpec).preRow enc Tryd.prog Tryd.f3 Rows.sheetPutsRow.domain false Rows.sheetPutsRow.laid) (((OpenSpec.ofChange Rows.sheetPutsSpec).at F).post enc Tryd.prog Tryd.f3 false true false false) := by
  obtain ⟨places, hx⟩ := readings os enc
  refine returnsInHanded_of_row (C := Tryd.checked) (s := OpenSpec.ofChange Rows.sheetPutsSpec) own started (by kernel_rfl) Tryd.func3
    (witness_row_at (enc := enc) (C := Tryd.checked) false (laidWorld os) #[.agg #[.int .u64 0, .bool false, .string ⟨#[]⟩], .string ⟨#[]⟩] rfl (by kernel_rfl) (by kernel_rfl) (by kernel_rfl)
      (OpenSpec.preRow_of_cond 8 hx (by kernel_rfl) (fun k hk => by cases hk) (by kernel_rfl) (laid_met os))) ?_
  intro W base args ds gs before hval hW _ _ _ hL _ _
  exact contract H enc W base args ds gs before hval hW hL

theorem said : Rows.SheetPutsSaid :=
  OpenClaim.holds_of_cond 3 Tryd.f3 rfl rfl rfl rfl rfl rfl rfl ⟨rfl, rfl, rfl, rfl, rfl⟩ rfl rfl rfl rfl rfl (by kernel_rfl) Tryd.func3 (by kernel_rfl)
    (of_decide_eq_true (by kernel_rfl)) (by unfold Func.isWrapper; first | (rw [if_pos (by decide +kernel)]; kernel_rfl) | (rw [if_neg (by decide +kernel)]; exact ⟨rfl, rfl⟩))
    (fun os started H enc _ F => by rw [OpenClaim.pre_eq_preRow]; exact lifted os started H enc F)

theorem plain (f : FuncId) (fn : Func) (hf : Tryd.pinned.checked.prog.funcNamed "armarium/armariumlaw05.SheetPuts" = some f) (hfn : Tryd.pinned.checked.prog.funcs[f]? = some fn) :
    false = Tryd.pinned.checked.prog.looks [] ∧ ∀ (j : Nat) t, fn.params[j]? = some t → Tryd.pinned.checked.prog.wantsStandIn t = false := by
  obtain rfl : f = 3 := Option.some.inj ((show Tryd.prog.funcNamed "armarium/armariumlaw05.SheetPuts" = some 3 by kernel_rfl).symm.trans hf) |>.symm
  obtain rfl : fn = Tryd.f3 := (Option.some.inj (Tryd.func3.symm.trans hfn)).symm
  refine ⟨by kernel_rfl, fun j t ht => ?_⟩
  rw [Tryd.params3] at ht
  have hm : t ∈ [24, 9] := by simpa using Array.mem_of_getElem? ht
  have hall : ([24, 9] : List TypeId).all (fun t => !Tryd.prog.wantsStandIn t) = true := by kernel_rfl
  have := List.all_eq_true.1 hall t hm
  exact (by simpa using this : Tryd.prog.wantsStandIn t = false)

theorem proved : Rows.SheetPutsCardSaid :=
  Claim7.holds_tied_plain_at .later [] _ _ _ _ said (fun _ h => by cases h) (by kernel_rfl) (fun _ h => by cases h) sheetPuts_row_tie rfl ⟨rfl, rfl⟩ (by kernel_rfl) rfl plain (by kernel_rfl)
#print axioms proved
end Go.Proofs.YtdpfigkjkjjedaaDoor.sheetPuts
