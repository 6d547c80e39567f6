/-
  Numbers of nine groups: the order; the roots.
-/
import Derived.Test.YtpchnmcofkffiaaDoorRf2
namespace Go.Proofs.YtpchnmcofkffiaaDoor
open Go.RowKit Go.SL

def LessRel (a b : List Nat) (bb ba : Nat) (l : List HProp) (i : Value) (wr : World) : Prop :=
  ∃ z : Int, -1 ≤ z ∧ z ≤ 8 ∧ i = .int .i64 z ∧ lessL a b = lessAt a b (z + 1).toNat ∧ Ent (u64c bb 56 b :: u64c ba 56 a :: l) wr

set_option maxRecDepth 100000 in
theorem less_any {l : List HProp} {w : World} {a b : List Nat} (ha : a.length = 9) (hb : b.length = 9) (hE : Ent l w) :
    Calls Tryd.prog 27 #[wideV a, wideV b] w (Ret fun v w' => v = .bool (lessL a b) ∧ Ent l w') := by
  have Ha := SL.hid ha
  have Hb := SL.hid hb
  clear ha hb
  go_enter Tryd.func27, Tryd.ntmps27
  go_wp2_with (first
    | go_skip
    | ((with_reducible (show Go.wpList _ _ _ (Go.Oper.mk _ (.box _ _) _ _ _ _ :: _) _ _)); refine wpl_box hE rfl rfl (v := wideV a) rfl ?_; clear hE; intro ba w1 hE1; simp only [Value.cells] at hE1)
    | ((with_reducible (show Go.wpList _ _ _ (Go.Oper.mk _ (.box _ _) _ _ _ _ :: _) _ _)); refine wpl_box hE1 rfl rfl (v := wideV b) rfl ?_; clear hE1; intro bb w1 hE; simp only [Value.cells] at hE))
  go_loopw [5] (fun i wr => LessRel a b bb ba l i wr) (fun i _ => (intOf i + 1).toNat)
  case atStart => exact ⟨8, by omega, by omega, rfl, rfl, hE⟩
  case round =>
    clear hE
    obtain ⟨z, hz1, hz2, rfl, hl, hE⟩ := hrel
    by_cases hz : 0 ≤ z
    · obtain ⟨k, rfl⟩ := Int.eq_ofNat_of_zero_le hz
      have hk : k < 9 := by omega
      have ik : (k : Int) < 9 := by omega
      rw [show ((k : Int) + 1).toNat = k + 1 from rfl] at hl
      have hl2 : lessL a b = if a.getD k 0 = b.getD k 0 then lessAt a b k else decide (a.getD k 0 < b.getD k 0) := hl
      have q0 := u64_at hE.drew 1 rfl (k := k) (by rw [Ha.out]; omega)
      have q1 := u64_at hE.drew 0 rfl (k := k) (by rw [Hb.out]; omega)
      have q2 := u64_at hE.drew.drew 1 rfl (k := k) (by rw [Ha.out]; omega)
      have q3 := u64_at hE.drew.drew 0 rfl (k := k) (by rw [Hb.out]; omega)
      clear hl
      generalize a.getD k 0 = x at *
      generalize b.getD k 0 = y at *
      by_cases hxy : x = y
      · subst hxy
        rw [if_pos rfl] at hl2
        have Hl := SL.hid hl2
        clear hl2
        go_wp2_with (first | go_skip)
        refine wp_region_held_drew (S := (fun w' => w'.cell? ⟨ba, k, none⟩ = some (.int .u64 (x : Int)) ∧ w'.cell? ⟨bb, k, none⟩ = some (.int .u64 (x : Int)))) (by kernel_rfl) ⟨q0, q1⟩ (fun hS => ?_)
        refine wpAnyH_take (i := 0) (oi := { dst := some 10, op := Go.Op.move (Go.Operand.tmp 5), type := 3, pos := "ref.go:26", after := #[], guard := none }) (v := ?_) rfl (by kernel_rfl) (by kernel_rfl) (by kernel_rfl) (fun _ _ _ h => h) (Or.inl ⟨by rfl, ?_⟩) hS ?_
        rotate_left
        · (intro w hSw; (try dsimp only at hSw); go_simp; (try with_reducible rfl))
        try simp only [Act.put, List.setIfInBounds_toArray, List.set_cons_zero, List.set_cons_succ]
        refine wpAnyH_take (i := 1) (oi := { dst := some 11, op := Go.Op.indexAddr 56 (Go.Operand.tmp 2) (Go.Operand.tmp 10), type := 0, pos := "ref.go:26", after := #[{ on := 0, ground := Go.Ground.data }], guard := none }) (v := ?_) rfl (by kernel_rfl) (by kernel_rfl) (by kernel_rfl) (fun _ _ _ h => h) (Or.inl ⟨by rfl, ?_⟩) hS ?_
        rotate_left
        · (intro w hSw; (try dsimp only at hSw); go_simp; (try with_reducible rfl))
        try simp only [Act.put, List.setIfInBounds_toArray, List.set_cons_zero, List.set_cons_succ]
        refine wpAnyH_take (i := 2) (oi := { dst := some 12, op := Go.Op.load 40 (Go.Operand.tmp 11), type := 40, pos := "ref.go:26", after := #[{ on := 1, ground := Go.Ground.data }], guard := none }) (v := ?_) rfl (by kernel_rfl) (by kernel_rfl) (by kernel_rfl) (fun _ _ _ h => h) (Or.inl ⟨by rfl, ?_⟩) hS ?_
        rotate_left
        · (intro w hSw; (try dsimp only at hSw); go_simp; (try with_reducible rfl))
        try simp only [Act.put, List.setIfInBounds_toArray, List.set_cons_zero, List.set_cons_succ]
        refine wpAnyH_take (i := 3) (oi := { dst := some 13, op := Go.Op.move (Go.Operand.tmp 5), type := 3, pos := "ref.go:26", after := #[], guard := none }) (v := ?_) rfl (by kernel_rfl) (by kernel_rfl) (by kernel_rfl) (fun _ _ _ h => h) (Or.inl ⟨by rfl, ?_⟩) hS ?_
        rotate_left
        · (intro w hSw; (try dsimp only at hSw); go_simp; (try with_reducible rfl))
        try simp only [Act.put, List.setIfInBounds_toArray, List.set_cons_zero, List.set_cons_succ]
        refine wpAnyH_take (i := 4) (oi := { dst := some 14, op := Go.Op.indexAddr 56 (Go.Operand.tmp 3) (Go.Operand.tmp 13), type := 0, pos := "ref.go:26", after := #[{ on := 3, ground := Go.Ground.data }], guard := none }) (v := ?_) rfl (by kernel_rfl) (by kernel_rfl) (by kernel_rfl) (fun _ _ _ h => h) (Or.inl ⟨by rfl, ?_⟩) hS ?_
        rotate_left
        · (intro w hSw; (try dsimp only at hSw); go_simp; (try with_reducible rfl))
        try simp only [Act.put, List.setIfInBounds_toArray, List.set_cons_zero, List.set_cons_succ]
        refine wpAnyH_take (i := 5) (oi := { dst := some 15, op := Go.Op.load 40 (Go.Operand.tmp 14), type := 40, pos := "ref.go:26", after := #[{ on := 4, ground := Go.Ground.data }], guard := none }) (v := ?_) rfl (by kernel_rfl) (by kernel_rfl) (by kernel_rfl) (fun _ _ _ h => h) (Or.inl ⟨by rfl, ?_⟩) hS ?_
        rotate_left
        · (intro w hSw; (try dsimp only at hSw); go_simp; (try with_reducible rfl))
        try simp only [Act.put, List.setIfInBounds_toArray, List.set_cons_zero, List.set_cons_succ]
        refine wpAnyH_take (i := 6) (oi := { dst := some 16, op := Go.Op.binOp Go.BinOp.neq 40 (Go.Operand.tmp 12) (Go.Operand.tmp 15) 40, type := 4, pos := "ref.go:26", after := #[{ on := 2, ground := Go.Ground.data }, { on := 5, ground := Go.Ground.data }], guard := none }) (v := ?_) rfl (by kernel_rfl) (by kernel_rfl) (by kernel_rfl) (fun _ _ _ h => h) (Or.inl ⟨by rfl, ?_⟩) hS ?_
        rotate_left
        · (intro w hSw; (try dsimp only at hSw); go_simp; (try with_reducible rfl))
        try simp only [Act.put, List.setIfInBounds_toArray, List.set_cons_zero, List.set_cons_succ]
        refine wpAnyH_done (by kernel_rfl) ?_ _
        have hE2 := hE.drew
        clear hE q0 q1 q2 q3 hS
        go_wp2_with (first | go_skip)
        go_roundw
        case rel => exact ⟨(k : Int) - 1, by omega, by omega, rfl, by rw [Hl.out, (show ((k : Int) - 1 + 1).toNat = k by omega)], hE2⟩
        case measure => simp [intOf]
      · rw [if_neg hxy] at hl2
        have hne : (x : Int) ≠ (y : Int) := by omega
        have hb1 : ((x : Int) != (y : Int)) = true := by simpa using hne
        have Hl := SL.hid hl2
        clear hl2
        go_wp2_with (first | go_skip)
        refine wp_region_held_drew (S := (fun w' => w'.cell? ⟨ba, k, none⟩ = some (.int .u64 (x : Int)) ∧ w'.cell? ⟨bb, k, none⟩ = some (.int .u64 (y : Int)))) (by kernel_rfl) ⟨q0, q1⟩ (fun hS => ?_)
        refine wpAnyH_take (i := 0) (oi := { dst := some 10, op := Go.Op.move (Go.Operand.tmp 5), type := 3, pos := "ref.go:26", after := #[], guard := none }) (v := ?_) rfl (by kernel_rfl) (by kernel_rfl) (by kernel_rfl) (fun _ _ _ h => h) (Or.inl ⟨by rfl, ?_⟩) hS ?_
        rotate_left
        · (intro w hSw; (try dsimp only at hSw); go_simp; (try with_reducible rfl))
        try simp only [Act.put, List.setIfInBounds_toArray, List.set_cons_zero, List.set_cons_succ]
        refine wpAnyH_take (i := 1) (oi := { dst := some 11, op := Go.Op.indexAddr 56 (Go.Operand.tmp 2) (Go.Operand.tmp 10), type := 0, pos := "ref.go:26", after := #[{ on := 0, ground := Go.Ground.data }], guard := none }) (v := ?_) rfl (by kernel_rfl) (by kernel_rfl) (by kernel_rfl) (fun _ _ _ h => h) (Or.inl ⟨by rfl, ?_⟩) hS ?_
        rotate_left
        · (intro w hSw; (try dsimp only at hSw); go_simp; (try with_reducible rfl))
        try simp only [Act.put, List.setIfInBounds_toArray, List.set_cons_zero, List.set_cons_succ]
        refine wpAnyH_take (i := 2) (oi := { dst := some 12, op := Go.Op.load 40 (Go.Operand.tmp 11), type := 40, pos := "ref.go:26", after := #[{ on := 1, ground := Go.Ground.data }], guard := none }) (v := ?_) rfl (by kernel_rfl) (by kernel_rfl) (by kernel_rfl) (fun _ _ _ h => h) (Or.inl ⟨by rfl, ?_⟩) hS ?_
        rotate_left
        · (intro w hSw; (try dsimp only at hSw); go_simp; (try with_reducible rfl))
        try simp only [Act.put, List.setIfInBounds_toArray, List.set_cons_zero, List.set_cons_succ]
        refine wpAnyH_take (i := 3) (oi := { dst := some 13, op := Go.Op.move (Go.Operand.tmp 5), type := 3, pos := "ref.go:26", after := #[], guard := none }) (v := ?_) rfl (by kernel_rfl) (by kernel_rfl) (by kernel_rfl) (fun _ _ _ h => h) (Or.inl ⟨by rfl, ?_⟩) hS ?_
        rotate_left
        · (intro w hSw; (try dsimp only at hSw); go_simp; (try with_reducible rfl))
        try simp only [Act.put, List.setIfInBounds_toArray, List.set_cons_zero, List.set_cons_succ]
        refine wpAnyH_take (i := 4) (oi := { dst := some 14, op := Go.Op.indexAddr 56 (Go.Operand.tmp 3) (Go.Operand.tmp 13), type := 0, pos := "ref.go:26", after := #[{ on := 3, ground := Go.Ground.data }], guard := none }) (v := ?_) rfl (by kernel_rfl) (by kernel_rfl) (by kernel_rfl) (fun _ _ _ h => h) (Or.inl ⟨by rfl, ?_⟩) hS ?_
        rotate_left
        · (intro w hSw; (try dsimp only at hSw); go_simp; (try with_reducible rfl))
        try simp only [Act.put, List.setIfInBounds_toArray, List.set_cons_zero, List.set_cons_succ]
        refine wpAnyH_take (i := 5) (oi := { dst := some 15, op := Go.Op.load 40 (Go.Operand.tmp 14), type := 40, pos := "ref.go:26", after := #[{ on := 4, ground := Go.Ground.data }], guard := none }) (v := ?_) rfl (by kernel_rfl) (by kernel_rfl) (by kernel_rfl) (fun _ _ _ h => h) (Or.inl ⟨by rfl, ?_⟩) hS ?_
        rotate_left
        · (intro w hSw; (try dsimp only at hSw); go_simp; (try with_reducible rfl))
        try simp only [Act.put, List.setIfInBounds_toArray, List.set_cons_zero, List.set_cons_succ]
        refine wpAnyH_take (i := 6) (oi := { dst := some 16, op := Go.Op.binOp Go.BinOp.neq 40 (Go.Operand.tmp 12) (Go.Operand.tmp 15) 40, type := 4, pos := "ref.go:26", after := #[{ on := 2, ground := Go.Ground.data }, { on := 5, ground := Go.Ground.data }], guard := none }) (v := ?_) rfl (by kernel_rfl) (by kernel_rfl) (by kernel_rfl) (fun _ _ _ h => h) (Or.inl ⟨by rfl, ?_⟩) hS ?_
        rotate_left
        · (intro w hSw; (try dsimp only at hSw); go_simp; (try with_reducible rfl))
        try simp only [Act.put, List.setIfInBounds_toArray, List.set_cons_zero, List.set_cons_succ]
        refine wpAnyH_done (by kernel_rfl) ?_ _
        clear hS
        go_wp2_with (first | go_skip)
        refine wp_region_held_drew (S := (fun w' => w'.cell? ⟨ba, k, none⟩ = some (.int .u64 (x : Int)) ∧ w'.cell? ⟨bb, k, none⟩ = some (.int .u64 (y : Int)))) (by kernel_rfl) ⟨q2, q3⟩ (fun hS => ?_)
        refine wpAnyH_take (i := 0) (oi := { dst := some 17, op := Go.Op.move (Go.Operand.tmp 5), type := 3, pos := "ref.go:27", after := #[], guard := none }) (v := ?_) rfl (by kernel_rfl) (by kernel_rfl) (by kernel_rfl) (fun _ _ _ h => h) (Or.inl ⟨by rfl, ?_⟩) hS ?_
        rotate_left
        · (intro w hSw; (try dsimp only at hSw); go_simp; (try with_reducible rfl))
        try simp only [Act.put, List.setIfInBounds_toArray, List.set_cons_zero, List.set_cons_succ]
        refine wpAnyH_take (i := 1) (oi := { dst := some 18, op := Go.Op.indexAddr 56 (Go.Operand.tmp 2) (Go.Operand.tmp 17), type := 0, pos := "ref.go:27", after := #[{ on := 0, ground := Go.Ground.data }], guard := none }) (v := ?_) rfl (by kernel_rfl) (by kernel_rfl) (by kernel_rfl) (fun _ _ _ h => h) (Or.inl ⟨by rfl, ?_⟩) hS ?_
        rotate_left
        · (intro w hSw; (try dsimp only at hSw); go_simp; (try with_reducible rfl))
        try simp only [Act.put, List.setIfInBounds_toArray, List.set_cons_zero, List.set_cons_succ]
        refine wpAnyH_take (i := 2) (oi := { dst := some 19, op := Go.Op.load 40 (Go.Operand.tmp 18), type := 40, pos := "ref.go:27", after := #[{ on := 1, ground := Go.Ground.data }], guard := none }) (v := ?_) rfl (by kernel_rfl) (by kernel_rfl) (by kernel_rfl) (fun _ _ _ h => h) (Or.inl ⟨by rfl, ?_⟩) hS ?_
        rotate_left
        · (intro w hSw; (try dsimp only at hSw); go_simp; (try with_reducible rfl))
        try simp only [Act.put, List.setIfInBounds_toArray, List.set_cons_zero, List.set_cons_succ]
        refine wpAnyH_take (i := 3) (oi := { dst := some 20, op := Go.Op.move (Go.Operand.tmp 5), type := 3, pos := "ref.go:27", after := #[], guard := none }) (v := ?_) rfl (by kernel_rfl) (by kernel_rfl) (by kernel_rfl) (fun _ _ _ h => h) (Or.inl ⟨by rfl, ?_⟩) hS ?_
        rotate_left
        · (intro w hSw; (try dsimp only at hSw); go_simp; (try with_reducible rfl))
        try simp only [Act.put, List.setIfInBounds_toArray, List.set_cons_zero, List.set_cons_succ]
        refine wpAnyH_take (i := 4) (oi := { dst := some 21, op := Go.Op.indexAddr 56 (Go.Operand.tmp 3) (Go.Operand.tmp 20), type := 0, pos := "ref.go:27", after := #[{ on := 3, ground := Go.Ground.data }], guard := none }) (v := ?_) rfl (by kernel_rfl) (by kernel_rfl) (by kernel_rfl) (fun _ _ _ h => h) (Or.inl ⟨by rfl, ?_⟩) hS ?_
        rotate_left
        · (intro w hSw; (try dsimp only at hSw); go_simp; (try with_reducible rfl))
        try simp only [Act.put, List.setIfInBounds_toArray, List.set_cons_zero, List.set_cons_succ]
        refine wpAnyH_take (i := 5) (oi := { dst := some 22, op := Go.Op.load 40 (Go.Operand.tmp 21), type := 40, pos := "ref.go:27", after := #[{ on := 4, ground := Go.Ground.data }], guard := none }) (v := ?_) rfl (by kernel_rfl) (by kernel_rfl) (by kernel_rfl) (fun _ _ _ h => h) (Or.inl ⟨by rfl, ?_⟩) hS ?_
        rotate_left
        · (intro w hSw; (try dsimp only at hSw); go_simp; (try with_reducible rfl))
        try simp only [Act.put, List.setIfInBounds_toArray, List.set_cons_zero, List.set_cons_succ]
        refine wpAnyH_take (i := 6) (oi := { dst := some 23, op := Go.Op.binOp Go.BinOp.lss 40 (Go.Operand.tmp 19) (Go.Operand.tmp 22) 40, type := 4, pos := "ref.go:27", after := #[{ on := 2, ground := Go.Ground.data }, { on := 5, ground := Go.Ground.data }], guard := none }) (v := ?_) rfl (by kernel_rfl) (by kernel_rfl) (by kernel_rfl) (fun _ _ _ h => h) (Or.inl ⟨by rfl, ?_⟩) hS ?_
        rotate_left
        · (intro w hSw; (try dsimp only at hSw); go_simp; (try with_reducible rfl))
        try simp only [Act.put, List.setIfInBounds_toArray, List.set_cons_zero, List.set_cons_succ]
        refine wpAnyH_take (i := 7) (oi := { dst := some 4, op := Go.Op.assign (Go.Operand.tmp 23), type := 4, pos := "ref.go:27", after := #[{ on := 6, ground := Go.Ground.data }, { on := 0, ground := Go.Ground.phase }, { on := 1, ground := Go.Ground.phase }, { on := 2, ground := Go.Ground.phase }, { on := 3, ground := Go.Ground.phase }, { on := 4, ground := Go.Ground.phase }, { on := 5, ground := Go.Ground.phase }, { on := 6, ground := Go.Ground.phase }], guard := none }) (v := ?_) rfl (by kernel_rfl) (by kernel_rfl) (by kernel_rfl) (fun _ _ _ h => h) (Or.inl ⟨by rfl, ?_⟩) hS ?_
        rotate_left
        · (intro w hSw; (try dsimp only at hSw); go_simp; (try with_reducible rfl))
        try simp only [Act.put, List.setIfInBounds_toArray, List.set_cons_zero, List.set_cons_succ]
        refine wpAnyH_done (by kernel_rfl) ?_ _
        clear hS q0 q1 q2 q3
        go_wp2_with (first | go_skip)
        go_ret
        exact ⟨_, rfl, by rw [Hl.out]; simp, hE.drew.drew.tail.tail⟩
    · obtain rfl : z = -1 := by omega
      have Hl : RowKit.Hid (lessL a b = false) := SL.hid hl
      clear hl
      go_wp2_with (first | go_skip)
      go_ret
      exact ⟨_, rfl, by rw [Hl.out]; rfl, hE.tail.tail⟩

def rootN (prime power : Nat) : List Nat := zero9.set (2 * power) prime
def powL (x : List Nat) : Nat → List Nat
  | 0 => x
  | k + 1 => timesL (powL x k) x
def bitAt (j : Nat) : Nat := 68719476736 / 2 ^ j
def rSum (out bit : Nat) : Nat := (out + bit) % 18446744073709551616
def rStep (prime power out bit : Nat) : Nat := if lessL (rootN prime power) (powL (wideL (rSum out bit)) (power - 1)) then out else rSum out bit
def rootAt (prime power : Nat) : Nat → Nat
  | 0 => 0
  | j + 1 => rStep prime power (rootAt prime power j) (bitAt j)
def rootV (prime power : Nat) : Nat := rootAt prime power 37 % 4294967296
theorem wideL_len (n : Nat) : (wideL n).length = 9 := wideAt_len n 4
theorem powL_len {x : List Nat} (h : x.length = 9) : ∀ k, (powL x k).length = 9
  | 0 => h
  | k + 1 => tOut_len _ _ 9
theorem rSum_lt (a b : Nat) : rSum a b < 18446744073709551616 := Nat.mod_lt _ (by decide)
theorem rootAt_lt (prime power : Nat) : ∀ j, rootAt prime power j < 18446744073709551616
  | 0 => by simp [rootAt]
  | j + 1 => by
    rw [rootAt, rStep]
    split
    · exact rootAt_lt prime power j
    · exact rSum_lt _ _
theorem bit_pos : ∀ j, j < 37 → 0 < bitAt j := by decide
theorem bit_lt (j : Nat) : bitAt j ≤ 68719476736 := Nat.div_le_self _ _
theorem bit_next (j : Nat) : bitAt (j + 1) = bitAt j / 2 := by
  unfold bitAt
  rw [Nat.pow_succ, Nat.div_div_eq_div_mul]

def RootRel (prime power bn : Nat) (l : List HProp) (o b : Value) (wr : World) : Prop :=
  ∃ j : Nat, j ≤ 37 ∧ o = .int .u64 ((rootAt prime power j : Nat) : Int) ∧ b = .int .u64 ((bitAt j : Nat) : Int) ∧ Ent (u64c bn 56 (rootN prime power) :: l) wr
def PowRel (x : List Nat) (power bp : Nat) (l : List HProp) (i : Value) (wr : World) : Prop :=
  ∃ k : Nat, k + 1 ≤ power ∧ i = .int .i64 ((k + 1 : Nat) : Int) ∧ Ent (u64c bp 56 (powL x k) :: l) wr

set_option maxRecDepth 100000 in
set_option maxHeartbeats 1000000 in
theorem Root_any {l : List HProp} {w : World} (prime power : Nat) (hpr : prime < 18446744073709551616) (hp1 : 1 ≤ power) (hp4 : power ≤ 4) (hE : Ent l w) :
    Calls Tryd.prog 23 #[.int .u64 (prime : Int), .int .i64 (power : Int)] w (Ret fun v w' => v = .int .u32 ((rootV prime power : Nat) : Int) ∧ Ent l w') := by
  obtain ⟨p2, hp2⟩ : ∃ p, p = 2 * power := ⟨_, rfl⟩
  have x1 : 2 * (power : Int) = (p2 : Int) := by omega
  have x2 : IntKind.i64.wrap (p2 : Int) = (p2 : Int) := wrap_small (by omega)
  have x3 : (p2 : Int) < 9 := by omega
  have x5 : p2 < 9 := by omega
  have hn0 : rootN prime power = zero9.set p2 prime := by rw [hp2]; rfl
  have Hn0 := SL.hid hn0
  have Hnl : RowKit.Hid ((rootN prime power).length = 9) := SL.hid (by rw [hn0, List.length_set]; rfl)
  clear hn0 hp2
  go_enter Tryd.func23, Tryd.ntmps23
  go_wp2_with (first
    | go_skip
    | ((with_reducible (show Go.wpList _ _ _ (Go.Oper.mk _ (.alloc _) _ _ _ _ :: _) _ _)); refine wpl_allocL hE rfl rfl (zs := zero9.map u64v) (size := 9) (bytes := 72) (by kernel_rfl) ?_; clear hE; intro bn w1 hE1)
    | ((with_reducible (show Go.wpList _ _ _ (Go.Oper.mk _ (.store _ _ _) _ _ _ _ :: _) _ _)); refine wpl_set1 hE1 0 rfl rfl rfl (off := p2) rfl (v := .int .u64 (prime : Int)) rfl Tryd.sizeOf40 rfl rfl (by rw [List.length_map]; exact x5) ?_; clear hE1; intro w5 hE2; simp only [List.set_cons_zero] at hE2; rw [u64_set, ← Hn0.out] at hE2))
  clear x1 x2 x3 x5
  go_loopw [6, 7] (fun o b wr => RootRel prime power bn l o b wr) (fun _ b _ => (intOf b).toNat)
  case atStart => exact ⟨0, Nat.zero_le _, rfl, rfl, hE2⟩
  case round =>
    clear hE2
    obtain ⟨j, hj, rfl, rfl, hE⟩ := hrel
    by_cases hlt : j < 37
    · have hbp := bit_pos j hlt
      have hbl := bit_lt j
      have hol := rootAt_lt prime power j
      have hsl := rSum_lt (rootAt prime power j) (bitAt j)
      have hs1 : IntKind.u64.wrap (((rootAt prime power j : Nat) : Int) + ((bitAt j : Nat) : Int)) = ((rSum (rootAt prime power j) (bitAt j) : Nat) : Int) := by
        rw [IntKind.wrap_u64, rSum]; omega
      have Hnx : RowKit.Hid (rootAt prime power (j + 1) = if lessL (rootN prime power) (powL (wideL (rSum (rootAt prime power j) (bitAt j))) (power - 1)) then rootAt prime power j else rSum (rootAt prime power j) (bitAt j)) := SL.hid rfl
      have Hbn := SL.hid (bit_next j)
      generalize rSum (rootAt prime power j) (bitAt j) = sm at *
      generalize rootAt prime power j = out at *
      generalize bitAt j = bt at *
      have hb2 : IntKind.u64.wrap ((bt : Int) / 2) = (bt : Int) / 2 := by rw [IntKind.wrap_u64]; omega
      have hb3 : (0 : Int) < (bt : Int) := by omega
      have hs2 : ((out : Int) + (bt : Int)) % 18446744073709551616 = (sm : Int) := by rw [← hs1, IntKind.wrap_u64]
      have Hwl := SL.hid (show ((wideL sm).map u64v).length = 9 by rw [List.length_map, wideL_len])
      have Hw9 := SL.hid (wideL_len sm)
      have Hwo := SL.hid (u64_one (wideL sm))
      generalize hx : wideL sm = x at *
      have Hx := SL.hid hx
      clear hx
      go_wp2_with (first
        | go_skip
        | (go_at_call 25; have H := wide_any sm hsl hE; rw [Hx.out] at H; refine H.mono ?_; clear H hE; rintro e w2 ⟨v, rfl, rfl, hE0⟩)
        | ((with_reducible (show Go.wpList _ _ _ (Go.Oper.mk _ (.alloc _) _ _ _ _ :: _) _ _)); refine wpl_allocN hE0 rfl rfl (n := 9) (by kernel_rfl) ?_; clear hE0; intro bx cs w1 hq hE1)
        | ((with_reducible (show Go.wpList _ _ _ (Go.Oper.mk _ (.store _ _ _) _ _ _ _ :: _) _ _)); refine wpl_storeN hE1 0 rfl rfl rfl (xs := x.map u64v) rfl rfl Tryd.sizeOf56 Hwl.out Hwo.out hq ?_; clear hE1; intro w9 hE2; simp only [List.set_cons_zero] at hE2)
        | ((with_reducible (show Go.wpList _ _ _ (Go.Oper.mk _ (.load _ _) _ _ _ _ :: _) _ _)); refine wpl_loadW hE2 0 rfl rfl rfl rfl Tryd.isAgg56 Tryd.sizeOf56 Hwl.out ?_)
        | ((with_reducible (show Go.wpList _ _ _ (Go.Oper.mk _ (.alloc _) _ _ _ _ :: _) _ _)); refine wpl_allocN hE2 rfl rfl (n := 9) (by kernel_rfl) ?_; clear hE2; intro bp cs2 w1 hq2 hE3)
        | ((with_reducible (show Go.wpList _ _ _ (Go.Oper.mk _ (.store _ _ _) _ _ _ _ :: _) _ _)); refine wpl_storeN hE3 0 rfl rfl rfl (xs := x.map u64v) rfl rfl Tryd.sizeOf56 Hwl.out Hwo.out hq2 ?_; clear hE3; intro w9 hE4; simp only [List.set_cons_zero] at hE4))
      clear hq hq2
      go_loopw [10] (fun i wr => PowRel x power bp (u64c bx 56 x :: u64c bn 56 (rootN prime power) :: l) i wr) (fun i _ => power - (intOf i).toNat)
      case atStart => exact ⟨0, hp1, rfl, hE4⟩
      case round =>
        clear hE4
        obtain ⟨k, hk, rfl, hE⟩ := hrel
        have Hp9 := SL.hid (powL_len Hw9.out k)
        have Hpl := SL.hid (show ((powL x k).map u64v).length = 9 by rw [List.length_map, powL_len Hw9.out])
        by_cases hk2 : k + 1 < power
        · have ik : ((k + 1 : Nat) : Int) < (power : Int) := by omega
          have Hpn : RowKit.Hid (powL x (k + 1) = timesL (powL x k) x) := SL.hid rfl
          have Hpl2 := SL.hid (show ((powL x (k + 1)).map u64v).length = 9 by rw [List.length_map, powL_len Hw9.out])
          have Hpo := SL.hid (u64_one (powL x (k + 1)))
          have hkk : ((k + 1 : Nat) : Int) + 1 = ((k + 1 + 1 : Nat) : Int) := by omega
          have Hkk := SL.hid hkk
          clear hkk
          generalize k + 1 = k1 at *
          generalize powL x k = pk0 at *
          generalize hpk1 : powL x k1 = pk1 at *
          have Hpk1 := SL.hid hpk1
          clear hpk1
          go_wp2_with (first
            | go_skip
            | ((with_reducible (show Go.wpList _ _ _ (Go.Oper.mk _ (.load _ (.tmp 9)) _ _ _ _ :: _) _ _)); refine wpl_loadW hE 0 rfl rfl rfl rfl Tryd.isAgg56 Tryd.sizeOf56 Hpl.out ?_)
            | ((with_reducible (show Go.wpList _ _ _ (Go.Oper.mk _ (.load _ (.tmp 8)) _ _ _ _ :: _) _ _)); refine wpl_loadW hE 1 rfl rfl rfl rfl Tryd.isAgg56 Tryd.sizeOf56 Hwl.out ?_)
            | (go_at_call 26; have H := times_any Hp9.out Hw9.out hE; rw [← Hpn.out] at H; refine H.mono ?_; clear H hE; rintro e w2 ⟨v, rfl, rfl, hE1⟩)
            | ((with_reducible (show Go.wpList _ _ _ (Go.Oper.mk _ (.store _ _ _) _ _ _ _ :: _) _ _)); refine wpl_storeN hE1 0 rfl rfl rfl (xs := pk1.map u64v) rfl rfl Tryd.sizeOf56 Hpl2.out Hpo.out Hpl.out ?_; clear hE1; intro w9 hE2; simp only [List.set_cons_zero] at hE2))
          go_roundw
          case rel => exact ⟨k1, by omega, by rw [← Hkk.out], by rw [Hpk1.out]; exact hE2⟩
          case measure => simp [intOf]; omega
        · have hpk : k + 1 = power := by omega
          have hpk2 : power - 1 = k := by omega
          have Hlt := SL.hid (powL_len Hw9.out k)
          generalize hpx : powL x k = px at *
          have hcond : rootAt prime power (j + 1) = if lessL (rootN prime power) px then out else sm := by rw [Hnx.out, hpk2, hpx]
          have Hrl := SL.hid (show ((rootN prime power).map u64v).length = 9 by rw [List.length_map, Hnl.out])
          clear hpx hpk2
          rw [hpk]
          clear hpk hk hk2 k
          cases hls : lessL (rootN prime power) px with
          | true =>
            rw [hls] at hcond
            have Hc : RowKit.Hid (rootAt prime power (j + 1) = out) := SL.hid hcond
            have Hls := SL.hid hls
            clear hcond hls
            go_wp2_with (first
              | go_skip
              | ((with_reducible (show Go.wpList _ _ _ (Go.Oper.mk _ (.load _ (.tmp 5)) _ _ _ _ :: _) _ _)); refine wpl_loadW hE 2 rfl rfl rfl rfl Tryd.isAgg56 Tryd.sizeOf56 Hrl.out ?_)
              | ((with_reducible (show Go.wpList _ _ _ (Go.Oper.mk _ (.load _ (.tmp 9)) _ _ _ _ :: _) _ _)); refine wpl_loadW hE 0 rfl rfl rfl rfl Tryd.isAgg56 Tryd.sizeOf56 Hpl.out ?_)
              | (go_at_call 27; have H := less_any Hnl.out Hlt.out hE; rw [Hls.out] at H; refine H.mono ?_; clear H hE; rintro e w2 ⟨v, rfl, rfl, hE1⟩))
            go_roundw
            case rel => exact ⟨j + 1, hlt, by rw [Hc.out], by rw [Hbn.out]; simp, hE1.tail.tail⟩
            case measure => simp [intOf]; omega
          | false =>
            rw [hls] at hcond
            have Hc : RowKit.Hid (rootAt prime power (j + 1) = sm) := SL.hid hcond
            have Hls := SL.hid hls
            clear hcond hls
            go_wp2_with (first
              | go_skip
              | ((with_reducible (show Go.wpList _ _ _ (Go.Oper.mk _ (.load _ (.tmp 5)) _ _ _ _ :: _) _ _)); refine wpl_loadW hE 2 rfl rfl rfl rfl Tryd.isAgg56 Tryd.sizeOf56 Hrl.out ?_)
              | ((with_reducible (show Go.wpList _ _ _ (Go.Oper.mk _ (.load _ (.tmp 9)) _ _ _ _ :: _) _ _)); refine wpl_loadW hE 0 rfl rfl rfl rfl Tryd.isAgg56 Tryd.sizeOf56 Hpl.out ?_)
              | (go_at_call 27; have H := less_any Hnl.out Hlt.out hE; rw [Hls.out] at H; refine H.mono ?_; clear H hE; rintro e w2 ⟨v, rfl, rfl, hE1⟩))
            go_roundw
            case rel => exact ⟨j + 1, hlt, by rw [Hc.out], by rw [Hbn.out]; simp, hE1.tail.tail⟩
            case measure => simp [intOf]; omega
    · obtain rfl : j = 37 := by omega
      have hb0 : bitAt 37 = 0 := by decide
      have hrl := rootAt_lt prime power 37
      have Hv : RowKit.Hid (rootV prime power = rootAt prime power 37 % 4294967296) := SL.hid rfl
      generalize rootAt prime power 37 = r at *
      have c1 : IntKind.u32.wrap ((r : Int) % 4294967296) = (r : Int) % 4294967296 := by rw [IntKind.wrap_u32']; omega
      go_wp2_with (first | go_skip)
      go_ret
      exact ⟨_, rfl, by rw [Hv.out]; simp, hE.tail⟩
end Go.Proofs.YtpchnmcofkffiaaDoor
