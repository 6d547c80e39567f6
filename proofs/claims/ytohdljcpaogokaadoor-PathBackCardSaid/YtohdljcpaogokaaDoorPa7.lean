/-
  Paths joined, rows compared, rows too great: the program's, the document's, the laws' own.
-/
import Derived.Test.YtohdljcpaogokaaDoorPa6
import Derived.Deep.RegionHeld3
namespace Go.Proofs.YtohdljcpaogokaaDoor
open Go.RowKit Go.SL

theorem str_cells {w : World} {b off n c : Nat} {xs : List (List UInt8)} (hr : reads (.slice (some ⟨b, off, none⟩) n c) n (xs.map strv) w) {i : Nat} (hi : i < xs.length) : w.cell? ⟨b, off + i, none⟩ = some (.string ⟨xs[i].toArray⟩) := by
  obtain ⟨ao, c', e, _, h2⟩ := hr
  cases e
  have := h2 _ rfl i (strv xs[i]) (by simp [List.getElem?_eq_getElem hi])
  rwa [Addr.add_lit] at this

def RwRel (n : Nat) (l : List HProp) (i : Value) (wr : World) : Prop := ∃ k : Nat, k ≤ n ∧ i = .int .i64 k ∧ Ent l wr
set_option maxRecDepth 100000 in
set_option maxHeartbeats 2000000 in
attribute [-go_sem] Instr.loadAt in
theorem row_same {xs : List (List UInt8)} (hn : xs.length ≤ 10000000) {ao bo : Option Addr} {c d : Nat} {l : List HProp} {w : World} (hE : Ent l w) (ka : Knows l (reads (.slice ao xs.length c) xs.length (xs.map strv))) (kb : Knows l (reads (.slice bo xs.length d) xs.length (xs.map strv))) :
    Calls Tryd.prog 13 #[.slice ao xs.length c, .slice bo xs.length d] w (Ret fun v w' => v = .bool true ∧ Ent l w') := by
  go_enter Tryd.func13, Tryd.ntmps13
  go_wp2
  go_loopw [5] (fun i wr => RwRel xs.length l i wr) (fun i _ => xs.length - (intOf i).toNat)
  case atStart => exact ⟨0, Nat.zero_le _, rfl, hE⟩
  case round =>
    clear hE
    obtain ⟨k, hkl, rfl, hE⟩ := hrel
    by_cases hlt : k < xs.length
    · obtain ⟨b1, o1, rfl, hcl⟩ := reads_form (ka _ hE) (by omega) (by simp; omega)
      clear hcl
      obtain ⟨b2, o2, rfl, hcl⟩ := reads_form (kb _ hE) (by omega) (by simp; omega)
      clear hcl
      have La := SL.hid (show ∀ W, Ent l W → (Instr.loadAt 9 (.pointer (some ⟨b1, o1 + k, none⟩))).run Tryd.prog W = .ok (.string ⟨xs[k].toArray⟩) W from fun W hW => by
        have h := str_cells (ka W hW) hlt
        simp [Instr.loadAt, Instr.sureAddr, loadVar, go_sem, h])
      have Lb := SL.hid (show ∀ W, Ent l W → (Instr.loadAt 9 (.pointer (some ⟨b2, o2 + k, none⟩))).run Tryd.prog W = .ok (.string ⟨xs[k].toArray⟩) W from fun W hW => by
        have h := str_cells (kb W hW) hlt
        simp [Instr.loadAt, Instr.sureAddr, loadVar, go_sem, h])
      generalize xs[k] = x at *
      go_wp2
      refine wp_region_held_drew (S := (fun w' => (Instr.loadAt 9 (.pointer (some ⟨b1, o1 + k, none⟩))).run Tryd.prog w' = .ok (.string ⟨x.toArray⟩) w' ∧ (Instr.loadAt 9 (.pointer (some ⟨b2, o2 + k, none⟩))).run Tryd.prog w' = .ok (.string ⟨x.toArray⟩) w')) (by kernel_rfl) ⟨La.out _ hE.drew, Lb.out _ hE.drew⟩ (fun hS => ?_)
      refine wpAnyH_take (i := 0) (oi := { dst := some 17, op := Go.Op.move (Go.Operand.tmp 0), type := 22, pos := "law.go:38", after := #[], guard := none }) (v := ?_) rfl (by kernel_rfl) (by kernel_rfl) (by kernel_rfl) (fun _ _ _ h => h) (Or.inl ⟨by rfl, ?_⟩) hS ?_
      rotate_left
      · (intro w hSw; (try dsimp only at hSw); go_simp; (try with_reducible rfl))
      try simp only [Act.put, List.setIfInBounds_toArray, List.set_cons_zero, List.set_cons_succ]
      refine wpAnyH_take (i := 1) (oi := { dst := some 18, op := Go.Op.move (Go.Operand.tmp 5), type := 3, pos := "law.go:38", after := #[], guard := none }) (v := ?_) rfl (by kernel_rfl) (by kernel_rfl) (by kernel_rfl) (fun _ _ _ h => h) (Or.inl ⟨by rfl, ?_⟩) hS ?_
      rotate_left
      · (intro w hSw; (try dsimp only at hSw); go_simp; (try with_reducible rfl))
      try simp only [Act.put, List.setIfInBounds_toArray, List.set_cons_zero, List.set_cons_succ]
      refine wpAnyH_take (i := 2) (oi := { dst := some 19, op := Go.Op.indexAddr 22 (Go.Operand.tmp 17) (Go.Operand.tmp 18), type := 0, pos := "law.go:38", after := #[{ on := 0, ground := Go.Ground.data }, { on := 1, ground := Go.Ground.data }], guard := none }) (v := ?_) rfl (by kernel_rfl) (by kernel_rfl) (by kernel_rfl) (fun _ _ _ h => h) (Or.inl ⟨by rfl, ?_⟩) hS ?_
      rotate_left
      · (intro w hSw; (try dsimp only at hSw); go_simp; (try with_reducible rfl))
      try simp only [Act.put, List.setIfInBounds_toArray, List.set_cons_zero, List.set_cons_succ]
      refine wpAnyH_take (i := 3) (oi := { dst := some 20, op := Go.Op.load 9 (Go.Operand.tmp 19), type := 9, pos := "law.go:38", after := #[{ on := 2, ground := Go.Ground.data }], guard := none }) (v := ?_) rfl (by kernel_rfl) (by kernel_rfl) (by kernel_rfl) (fun _ _ _ h => h) (Or.inl ⟨by rfl, ?_⟩) hS ?_
      rotate_left
      · (intro w hSw; (try dsimp only at hSw); go_simp; (try with_reducible rfl))
      try simp only [Act.put, List.setIfInBounds_toArray, List.set_cons_zero, List.set_cons_succ]
      refine wpAnyH_take (i := 4) (oi := { dst := some 21, op := Go.Op.move (Go.Operand.tmp 1), type := 22, pos := "law.go:38", after := #[], guard := none }) (v := ?_) rfl (by kernel_rfl) (by kernel_rfl) (by kernel_rfl) (fun _ _ _ h => h) (Or.inl ⟨by rfl, ?_⟩) hS ?_
      rotate_left
      · (intro w hSw; (try dsimp only at hSw); go_simp; (try with_reducible rfl))
      try simp only [Act.put, List.setIfInBounds_toArray, List.set_cons_zero, List.set_cons_succ]
      refine wpAnyH_take (i := 5) (oi := { dst := some 22, op := Go.Op.move (Go.Operand.tmp 5), type := 3, pos := "law.go:38", after := #[], guard := none }) (v := ?_) rfl (by kernel_rfl) (by kernel_rfl) (by kernel_rfl) (fun _ _ _ h => h) (Or.inl ⟨by rfl, ?_⟩) hS ?_
      rotate_left
      · (intro w hSw; (try dsimp only at hSw); go_simp; (try with_reducible rfl))
      try simp only [Act.put, List.setIfInBounds_toArray, List.set_cons_zero, List.set_cons_succ]
      refine wpAnyH_take (i := 6) (oi := { dst := some 23, op := Go.Op.indexAddr 22 (Go.Operand.tmp 21) (Go.Operand.tmp 22), type := 0, pos := "law.go:38", after := #[{ on := 4, ground := Go.Ground.data }, { on := 5, ground := Go.Ground.data }], guard := none }) (v := ?_) rfl (by kernel_rfl) (by kernel_rfl) (by kernel_rfl) (fun _ _ _ h => h) (Or.inl ⟨by rfl, ?_⟩) hS ?_
      rotate_left
      · (intro w hSw; (try dsimp only at hSw); go_simp; (try with_reducible rfl))
      try simp only [Act.put, List.setIfInBounds_toArray, List.set_cons_zero, List.set_cons_succ]
      refine wpAnyH_take (i := 7) (oi := { dst := some 24, op := Go.Op.load 9 (Go.Operand.tmp 23), type := 9, pos := "law.go:38", after := #[{ on := 6, ground := Go.Ground.data }], guard := none }) (v := ?_) rfl (by kernel_rfl) (by kernel_rfl) (by kernel_rfl) (fun _ _ _ h => h) (Or.inl ⟨by rfl, ?_⟩) hS ?_
      rotate_left
      · (intro w hSw; (try dsimp only at hSw); go_simp; (try with_reducible rfl))
      try simp only [Act.put, List.setIfInBounds_toArray, List.set_cons_zero, List.set_cons_succ]
      refine wpAnyH_take (i := 8) (oi := { dst := some 25, op := Go.Op.binOp Go.BinOp.neq 9 (Go.Operand.tmp 20) (Go.Operand.tmp 24) 9, type := 4, pos := "law.go:38", after := #[{ on := 3, ground := Go.Ground.data }, { on := 7, ground := Go.Ground.data }], guard := none }) (v := ?_) rfl (by kernel_rfl) (by kernel_rfl) (by kernel_rfl) (fun _ _ _ h => h) (Or.inl ⟨by rfl, ?_⟩) hS ?_
      rotate_left
      · (intro w hSw; (try dsimp only at hSw); go_simp; (try with_reducible rfl))
      try simp only [Act.put, List.setIfInBounds_toArray, List.set_cons_zero, List.set_cons_succ]
      refine wpAnyH_done (by kernel_rfl) ?_ _
      go_wp2
      go_roundw
      case rel => exact ⟨k + 1, hlt, by first | rfl | simp, hE.drew⟩
      case measure => simp [intOf] <;> omega
    · go_wp2
      go_ret
      exact ⟨_, rfl, rfl, hE⟩

def bndS (l : List (List UInt8)) : Prop := l.length ≤ 30 ∧ ∀ x ∈ l, x.length ≤ 200
def GsPost (xs : List (List UInt8)) (v : Value) : Prop := ∃ g, v = .bool g ∧ (g = false → bndS xs)
def GsRel (xs : List (List UInt8)) (l : List HProp) (i : Value) (wr : World) : Prop := ∃ k : Nat, k ≤ xs.length ∧ i = .int .i64 k ∧ (∀ x ∈ xs.take k, x.length ≤ 200) ∧ Ent l wr
set_option maxRecDepth 100000 in
set_option maxHeartbeats 2000000 in
theorem great19_any {xs : List (List UInt8)} {ao : Option Addr} {c : Nat} {l : List HProp} {w : World} (hE : Ent l w) (hk : Knows l (reads (.slice ao xs.length c) xs.length (xs.map strv))) :
    Calls Tryd.prog 7 #[.slice ao xs.length c] w (Ret fun v w' => GsPost xs v ∧ Ent l w') := by
  by_cases h1 : (30 : Int) < (xs.length : Int)
  · go_enter Tryd.func7, Tryd.ntmps7
    go_wp2
    go_ret
    exact ⟨_, rfl, ⟨true, rfl, by simp⟩, hE⟩
  have hn : xs.length ≤ 30 := by omega
  have hd : decide ((30 : Int) < (xs.length : Int)) = false := decide_eq_false h1
  clear h1
  go_enter Tryd.func7, Tryd.ntmps7
  go_wp2
  clear hd
  go_loopw [3] (fun i wr => GsRel xs l i wr) (fun i _ => xs.length - (intOf i).toNat)
  case atStart => exact ⟨0, Nat.zero_le _, rfl, by simp, hE⟩
  case round =>
    clear hE
    obtain ⟨k, hkl, rfl, hall, hE⟩ := hrel
    by_cases hlt : k < xs.length
    · obtain ⟨b1, o1, rfl, hcl⟩ := reads_form (hk _ hE) (by omega) (by simp; omega)
      clear hcl
      have k0 := str_cells (hk _ hE) hlt
      have Hs := SL.hid (show xs[k].length ≤ 200 → ∀ x ∈ xs.take (k + 1), x.length ≤ 200 from fun h x hx => by
        rw [List.take_succ_eq_append_getElem hlt, List.mem_append, List.mem_singleton] at hx
        rcases hx with hx | rfl
        · exact hall x hx
        · exact h)
      clear hall
      generalize xs[k] = x at *
      by_cases a1 : (200 : Int) < (x.length : Int)
      · go_wp2
        go_ret
        exact ⟨_, rfl, ⟨true, rfl, by simp⟩, hE⟩
      have e1 : decide ((200 : Int) < (x.length : Int)) = false := decide_eq_false a1
      have Hx := SL.hid (show x.length ≤ 200 by omega)
      clear a1
      go_wp2
      go_roundw
      case rel => exact ⟨k + 1, hlt, by first | rfl | simp, Hs.out Hx.out, hE⟩
      case measure => simp [intOf] <;> omega
    · have Hall := SL.hid (show ∀ x ∈ xs, x.length ≤ 200 by rwa [show k = xs.length by omega, List.take_length] at hall)
      clear hall
      go_wp2
      go_ret
      exact ⟨_, rfl, ⟨_, rfl, fun _ => ⟨hn, Hall.out⟩⟩, hE⟩
end Go.Proofs.YtohdljcpaogokaaDoor
