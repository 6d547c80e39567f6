/-
  The next word of a block's 64: what the closure computes, and how the ring turns.
-/
import Derived.Test.YtpchnmcofkffiaaDoorSh2
import Derived.Deep.RegionLaw
import Derived.Deep.RegionHeld3
import Derived.Laws.BitsLemmas
namespace Go.Proofs.YtpchnmcofkffiaaDoor
open Go.RowKit Go.SL

abbrev u32c (b : Nat) (T : TypeId) (r : List Nat) : HProp := pt b (.cells (r.map u32v).toArray T (0, 0))

theorem u32_cell {r : List Nat} {k : Nat} (h : k < r.length) : (r.map u32v).toArray[k]? = some (.int .u32 ((r.getD k 0 : Nat) : Int)) := by
  simp [h, u32v, List.getD_eq_getElem?_getD]
theorem u32_at {l : List HProp} {w : World} {b : Nat} {T : TypeId} {r : List Nat} (hE : Ent l w) (i : Nat) (hi : l[i]? = some (u32c b T r)) {k : Nat} (h : k < r.length) : w.cell? ⟨b, k, none⟩ = some (.int .u32 ((r.getD k 0 : Nat) : Int)) :=
  (hE.cell i hi k).trans (u32_cell h)

theorem wrap_small {z : Int} (h : 0 ≤ z ∧ z < 9223372036854775808) : IntKind.i64.wrap z = z := by
  rw [IntKind.wrap_i64]; omega
theorem tmod16 {i k : Nat} (h : i < 64) (hk : k < 64) : (IntKind.i64.wrap ((i : Int) + (k : Int))).tmod 16 = (((i + k) % 16 : Nat) : Int) := by
  rw [wrap_small (by omega), Int.tmod_eq_emod_of_nonneg (by omega)]
  simp

theorem u32_other {l : List HProp} {w : World} {b : Nat} {T : TypeId} {r : List Nat} {u v : Value} {j k : Nat} (hE : Ent (u32c b T r :: l) w) (c : w.cell? ⟨b, j, none⟩ = some u) (h : j ≠ k) : (w.setCell ⟨b, k, none⟩ v).cell? ⟨b, j, none⟩ = some u := by
  have h1 := (hE.setCell 0 rfl k v).cell 0 rfl j
  rw [h1, Array.getElem?_setIfInBounds_ne (Ne.symm h), ← hE.cell 0 rfl j]
  exact c

theorem next_sum (o a z b : Nat) : IntKind.u32.wrap ((o : Int) + IntKind.u32.wrap (IntKind.u32.wrap ((a : Int) + (z : Int)) + (b : Int))) = (((o + (a + z + b)) % 4294967296 : Nat) : Int) := by
  simp only [IntKind.wrap_u32']
  omega
theorem ring_got {r r2 : List Nat} {p nv : Nat} (h : r2 = r.set p nv) (hp : p < r.length) : r2.getD p 0 = nv := by subst h; simp [hp, List.getD_eq_getElem?_getD]
theorem next_ring {r : List Nat} {p nv : Nat} : (r.map u32v).toArray.setIfInBounds p (.int .u32 (nv : Int)) = ((r.set p nv).map u32v).toArray := by
  simp [List.setIfInBounds_toArray, List.map_set, u32v]

set_option maxRecDepth 100000 in
theorem next_low {l : List HProp} {w : World} {br : Nat} {r : List Nat} (hl : r.length = 16) {i : Nat} (hi : i < 16) (hE : Ent (u32c br 37 r :: l) w) :
    Calls Tryd.prog 18 #[.int .i64 i, .pointer (some ⟨br, 0, none⟩)] w (fun e w' => e = .returned (.int .u32 ((r.getD i 0 : Nat) : Int)) ∧ w = w') := by
  have c0 : w.cell? ⟨br, i % 16, none⟩ = some (.int .u32 ((r.getD i 0 : Nat) : Int)) := by
    rw [Nat.mod_eq_of_lt hi]; exact u32_at hE 0 rfl (k := i) (by omega)
  generalize r.getD i 0 = x at c0 ⊢
  go_enter Tryd.func18, Tryd.ntmps18
  go_wp2_with (first | go_skip)
  go_ret
  exact ⟨rfl, rfl⟩

set_option maxRecDepth 100000 in
theorem next_high {l : List HProp} {w : World} {br : Nat} {r : List Nat} (hl : r.length = 16) (hr : ∀ x ∈ r, x < 4294967296) {i : Nat} (hi : ¬ i < 16) (h64 : i < 64) (hE : Ent (u32c br 37 r :: l) w) :
    Calls Tryd.prog 18 #[.int .i64 i, .pointer (some ⟨br, 0, none⟩)] w (Ret fun v w' => v = (.int .u32 (((ringAt r i).getD (i % 16) 0 : Nat) : Int)) ∧ Ent (u32c br 37 (ringAt r i) :: l) w') := by
  have hED := hE.drew
  have q1 : (i + 1) % 16 < 16 := Nat.mod_lt _ (by decide)
  have q9 : (i + 9) % 16 < 16 := Nat.mod_lt _ (by decide)
  have q14 : (i + 14) % 16 < 16 := Nat.mod_lt _ (by decide)
  have q0 : i % 16 < 16 := Nat.mod_lt _ (by decide)
  have n9 : (i + 9) % 16 ≠ i % 16 := by omega
  have c0 := u32_at hED 0 rfl (k := (i + 1) % 16) (by omega)
  have c1 := u32_at hED 0 rfl (k := (i + 14) % 16) (by omega)
  have c2 := u32_at hED.drew 0 rfl (k := (i + 9) % 16) (by omega)
  have c3 := u32_at hED.drew 0 rfl (k := i % 16) (by omega)
  have Hr : RowKit.Hid (ringAt r i = r.set (i % 16) ((r.getD (i % 16) 0 + (ls0 (r.getD ((i + 1) % 16) 0) + r.getD ((i + 9) % 16) 0 + ls1 (r.getD ((i + 14) % 16) 0))) % 4294967296)) := SL.hid (by unfold ringAt; rw [if_neg hi])
  have Hx := SL.hid (getD_lt hr ((i + 1) % 16))
  have Hy := SL.hid (getD_lt hr ((i + 14) % 16))
  have Hz := SL.hid (getD_lt hr ((i + 9) % 16))
  have Ho := SL.hid (getD_lt hr (i % 16))
  generalize r.getD ((i + 1) % 16) 0 = x at *
  generalize r.getD ((i + 14) % 16) 0 = y at *
  generalize r.getD ((i + 9) % 16) 0 = z at *
  generalize r.getD (i % 16) 0 = o at *
  have e0 := ls0_int Hx.out
  have e1 := ls1_int Hy.out
  have m1 : (IntKind.i64.wrap ((i : Int) + 1)).tmod 16 = (((i + 1) % 16 : Nat) : Int) := tmod16 (k := 1) h64 (by omega)
  have m9 : (IntKind.i64.wrap ((i : Int) + 9)).tmod 16 = (((i + 9) % 16 : Nat) : Int) := tmod16 (k := 9) h64 (by omega)
  have m14 : (IntKind.i64.wrap ((i : Int) + 14)).tmod 16 = (((i + 14) % 16 : Nat) : Int) := tmod16 (k := 14) h64 (by omega)
  have m0 : ((i : Int)).tmod 16 = ((i % 16 : Nat) : Int) := by simp [Int.tmod_eq_emod_of_nonneg]
  have m0' : ((i : Int)) % 16 = ((i % 16 : Nat) : Int) := by simp
  have d3 : w.drew.drew.frozen? ⟨br, i % 16, none⟩ = false := hED.drew.frozen 0 rfl (i % 16)
  generalize (i + 1) % 16 = p1 at *
  generalize (i + 14) % 16 = p14 at *
  generalize (i + 9) % 16 = p9 at *
  generalize i % 16 = p0 at *
  have N9 := SL.hid n9
  clear n9
  have b1 : (p1 : Int) < 16 := by omega
  have b9 : (p9 : Int) < 16 := by omega
  have b14 : (p14 : Int) < 16 := by omega
  have b0 : (p0 : Int) < 16 := by omega
  go_enter Tryd.func18, Tryd.ntmps18
  go_wp2_with (first | go_skip)
  refine wp_region_held_drew (S := (fun w' => w'.cell? ⟨br, p1, none⟩ = some (.int .u32 (x : Int)) ∧ w'.cell? ⟨br, p14, none⟩ = some (.int .u32 (y : Int)))) (by kernel_rfl) ⟨c0, c1⟩ (fun hS => ?_)
  refine wpAnyH_take (i := 0) (oi := { dst := some 13, op := Go.Op.move (Go.Operand.tmp 0), type := 3, pos := "sha.go:49", after := #[], guard := none }) (v := ?_) rfl (by kernel_rfl) (by kernel_rfl) (by kernel_rfl) (fun _ _ _ h => h) (Or.inl ⟨by rfl, ?_⟩) hS ?_
  rotate_left
  · (intro w hSw; (try dsimp only at hSw); go_simp; (try with_reducible rfl))
  try simp only [Act.put, List.setIfInBounds_toArray, List.set_cons_zero, List.set_cons_succ]
  refine wpAnyH_take (i := 1) (oi := { dst := some 14, op := Go.Op.binOp Go.BinOp.add 3 (Go.Operand.tmp 13) (Go.Operand.const (Go.Value.int Go.IntKind.i64 1)) 3, type := 3, pos := "sha.go:49", after := #[{ on := 0, ground := Go.Ground.data }], guard := none }) (v := ?_) rfl (by kernel_rfl) (by kernel_rfl) (by kernel_rfl) (fun _ _ _ h => h) (Or.inl ⟨by rfl, ?_⟩) hS ?_
  rotate_left
  · (intro w hSw; (try dsimp only at hSw); go_simp; (try with_reducible rfl))
  try simp only [Act.put, List.setIfInBounds_toArray, List.set_cons_zero, List.set_cons_succ]
  refine wpAnyH_take (i := 2) (oi := { dst := some 15, op := Go.Op.binOp Go.BinOp.rem 3 (Go.Operand.tmp 14) (Go.Operand.const (Go.Value.int Go.IntKind.i64 16)) 3, type := 3, pos := "sha.go:49", after := #[{ on := 1, ground := Go.Ground.data }], guard := none }) (v := ?_) rfl (by kernel_rfl) (by kernel_rfl) (by kernel_rfl) (fun _ _ _ h => h) (Or.inl ⟨by rfl, ?_⟩) hS ?_
  rotate_left
  · (intro w hSw; (try dsimp only at hSw); go_simp; (try with_reducible rfl))
  try simp only [Act.put, List.setIfInBounds_toArray, List.set_cons_zero, List.set_cons_succ]
  refine wpAnyH_take (i := 3) (oi := { dst := some 16, op := Go.Op.indexAddr 37 (Go.Operand.tmp 1) (Go.Operand.tmp 15), type := 0, pos := "sha.go:49", after := #[{ on := 2, ground := Go.Ground.data }], guard := none }) (v := ?_) rfl (by kernel_rfl) (by kernel_rfl) (by kernel_rfl) (fun _ _ _ h => h) (Or.inl ⟨by rfl, ?_⟩) hS ?_
  rotate_left
  · (intro w hSw; (try dsimp only at hSw); go_simp; (try with_reducible rfl))
  try simp only [Act.put, List.setIfInBounds_toArray, List.set_cons_zero, List.set_cons_succ]
  refine wpAnyH_take (i := 4) (oi := { dst := some 17, op := Go.Op.load 23 (Go.Operand.tmp 16), type := 23, pos := "sha.go:49", after := #[{ on := 3, ground := Go.Ground.data }], guard := none }) (v := ?_) rfl (by kernel_rfl) (by kernel_rfl) (by kernel_rfl) (fun _ _ _ h => h) (Or.inl ⟨by rfl, ?_⟩) hS ?_
  rotate_left
  · (intro w hSw; (try dsimp only at hSw); go_simp; (try with_reducible rfl))
  try simp only [Act.put, List.setIfInBounds_toArray, List.set_cons_zero, List.set_cons_succ]
  refine wpAnyH_take (i := 5) (oi := { dst := some 18, op := Go.Op.move (Go.Operand.tmp 0), type := 3, pos := "sha.go:49", after := #[{ on := 10, ground := Go.Ground.gcOnly Go.Departure.lateStores }], guard := none }) (v := ?_) rfl (by kernel_rfl) (by kernel_rfl) (by kernel_rfl) (fun _ _ _ h => h) (Or.inl ⟨by rfl, ?_⟩) hS ?_
  rotate_left
  · (intro w hSw; (try dsimp only at hSw); go_simp; (try with_reducible rfl))
  try simp only [Act.put, List.setIfInBounds_toArray, List.set_cons_zero, List.set_cons_succ]
  refine wpAnyH_take (i := 6) (oi := { dst := some 19, op := Go.Op.binOp Go.BinOp.add 3 (Go.Operand.tmp 18) (Go.Operand.const (Go.Value.int Go.IntKind.i64 14)) 3, type := 3, pos := "sha.go:49", after := #[{ on := 5, ground := Go.Ground.data }, { on := 10, ground := Go.Ground.gcOnly Go.Departure.lateStores }], guard := none }) (v := ?_) rfl (by kernel_rfl) (by kernel_rfl) (by kernel_rfl) (fun _ _ _ h => h) (Or.inl ⟨by rfl, ?_⟩) hS ?_
  rotate_left
  · (intro w hSw; (try dsimp only at hSw); go_simp; (try with_reducible rfl))
  try simp only [Act.put, List.setIfInBounds_toArray, List.set_cons_zero, List.set_cons_succ]
  refine wpAnyH_take (i := 7) (oi := { dst := some 20, op := Go.Op.binOp Go.BinOp.rem 3 (Go.Operand.tmp 19) (Go.Operand.const (Go.Value.int Go.IntKind.i64 16)) 3, type := 3, pos := "sha.go:49", after := #[{ on := 6, ground := Go.Ground.data }, { on := 10, ground := Go.Ground.gcOnly Go.Departure.lateStores }], guard := none }) (v := ?_) rfl (by kernel_rfl) (by kernel_rfl) (by kernel_rfl) (fun _ _ _ h => h) (Or.inl ⟨by rfl, ?_⟩) hS ?_
  rotate_left
  · (intro w hSw; (try dsimp only at hSw); go_simp; (try with_reducible rfl))
  try simp only [Act.put, List.setIfInBounds_toArray, List.set_cons_zero, List.set_cons_succ]
  refine wpAnyH_take (i := 8) (oi := { dst := some 21, op := Go.Op.indexAddr 37 (Go.Operand.tmp 1) (Go.Operand.tmp 20), type := 0, pos := "sha.go:49", after := #[{ on := 7, ground := Go.Ground.data }, { on := 10, ground := Go.Ground.gcOnly Go.Departure.lateStores }], guard := none }) (v := ?_) rfl (by kernel_rfl) (by kernel_rfl) (by kernel_rfl) (fun _ _ _ h => h) (Or.inl ⟨by rfl, ?_⟩) hS ?_
  rotate_left
  · (intro w hSw; (try dsimp only at hSw); go_simp; (try with_reducible rfl))
  try simp only [Act.put, List.setIfInBounds_toArray, List.set_cons_zero, List.set_cons_succ]
  refine wpAnyH_take (i := 9) (oi := { dst := some 22, op := Go.Op.load 23 (Go.Operand.tmp 21), type := 23, pos := "sha.go:49", after := #[{ on := 8, ground := Go.Ground.data }, { on := 10, ground := Go.Ground.gcOnly Go.Departure.lateStores }], guard := none }) (v := ?_) rfl (by kernel_rfl) (by kernel_rfl) (by kernel_rfl) (fun _ _ _ h => h) (Or.inl ⟨by rfl, ?_⟩) hS ?_
  rotate_left
  · (intro w hSw; (try dsimp only at hSw); go_simp; (try with_reducible rfl))
  try simp only [Act.put, List.setIfInBounds_toArray, List.set_cons_zero, List.set_cons_succ]
  refine wpAnyH_take (i := 10) (oi := { dst := some 5, op := Go.Op.assign (Go.Operand.tmp 17), type := 23, pos := "sha.go:49", after := #[{ on := 4, ground := Go.Ground.data }, { on := 0, ground := Go.Ground.phase }, { on := 1, ground := Go.Ground.phase }, { on := 2, ground := Go.Ground.phase }, { on := 3, ground := Go.Ground.phase }, { on := 4, ground := Go.Ground.phase }, { on := 5, ground := Go.Ground.textOnly Go.Departure.lateStores }, { on := 6, ground := Go.Ground.textOnly Go.Departure.lateStores }, { on := 7, ground := Go.Ground.textOnly Go.Departure.lateStores }, { on := 8, ground := Go.Ground.textOnly Go.Departure.lateStores }, { on := 9, ground := Go.Ground.textOnly Go.Departure.lateStores }], guard := none }) (v := ?_) rfl (by kernel_rfl) (by kernel_rfl) (by kernel_rfl) (fun _ _ _ h => h) (Or.inl ⟨by rfl, ?_⟩) hS ?_
  rotate_left
  · (intro w hSw; (try dsimp only at hSw); go_simp; (try with_reducible rfl))
  try simp only [Act.put, List.setIfInBounds_toArray, List.set_cons_zero, List.set_cons_succ]
  refine wpAnyH_take (i := 11) (oi := { dst := some 6, op := Go.Op.assign (Go.Operand.tmp 22), type := 23, pos := "sha.go:49", after := #[{ on := 9, ground := Go.Ground.data }, { on := 10, ground := Go.Ground.chain }, { on := 0, ground := Go.Ground.phase }, { on := 1, ground := Go.Ground.phase }, { on := 2, ground := Go.Ground.phase }, { on := 3, ground := Go.Ground.phase }, { on := 4, ground := Go.Ground.phase }, { on := 5, ground := Go.Ground.phase }, { on := 6, ground := Go.Ground.phase }, { on := 7, ground := Go.Ground.phase }, { on := 8, ground := Go.Ground.phase }, { on := 9, ground := Go.Ground.phase }, { on := 10, ground := Go.Ground.phase }], guard := none }) (v := ?_) rfl (by kernel_rfl) (by kernel_rfl) (by kernel_rfl) (fun _ _ _ h => h) (Or.inl ⟨by rfl, ?_⟩) hS ?_
  rotate_left
  · (intro w hSw; (try dsimp only at hSw); go_simp; (try with_reducible rfl))
  try simp only [Act.put, List.setIfInBounds_toArray, List.set_cons_zero, List.set_cons_succ]
  refine wpAnyH_done (by kernel_rfl) ?_ _
  go_wp2_with (first
    | go_skip
    | (go_at_call 19; with_reducible (refine (right_7 x Hx.out _).mono ?_); rintro e w2 ⟨rfl, rfl⟩)
    | (go_at_call 19; with_reducible (refine (right_18 x Hx.out _).mono ?_); rintro e w2 ⟨rfl, rfl⟩)
    | (go_at_call 19; with_reducible (refine (right_17 y Hy.out _).mono ?_); rintro e w2 ⟨rfl, rfl⟩)
    | (go_at_call 19; with_reducible (refine (right_19 y Hy.out _).mono ?_); rintro e w2 ⟨rfl, rfl⟩))
  refine wp_region_held_drew (S := (fun w' => w'.cell? ⟨br, p9, none⟩ = some (.int .u32 (z : Int)))) (by kernel_rfl) c2 (fun hS => ?_)
  refine wpAnyH_take (i := 0) (oi := { dst := some 39, op := Go.Op.move (Go.Operand.tmp 4), type := 3, pos := "sha.go:52", after := #[], guard := none }) (v := ?_) rfl (by kernel_rfl) (by kernel_rfl) (by kernel_rfl) (fun _ _ _ h => h) (Or.inl ⟨by rfl, ?_⟩) hS ?_
  rotate_left
  · (intro w hSw; (try dsimp only at hSw); go_simp; (try with_reducible rfl))
  try simp only [Act.put, List.setIfInBounds_toArray, List.set_cons_zero, List.set_cons_succ]
  refine wpAnyH_take (i := 1) (oi := { dst := some 40, op := Go.Op.indexAddr 37 (Go.Operand.tmp 1) (Go.Operand.tmp 39), type := 0, pos := "sha.go:52", after := #[{ on := 0, ground := Go.Ground.data }], guard := none }) (v := ?_) rfl (by kernel_rfl) (by kernel_rfl) (by kernel_rfl) (fun _ _ _ h => h) (Or.inl ⟨by rfl, ?_⟩) hS ?_
  rotate_left
  · (intro w hSw; (try dsimp only at hSw); go_simp; (try with_reducible rfl))
  try simp only [Act.put, List.setIfInBounds_toArray, List.set_cons_zero, List.set_cons_succ]
  refine wpAnyH_take (i := 3) (oi := { dst := some 42, op := Go.Op.move (Go.Operand.tmp 7), type := 23, pos := "sha.go:52", after := #[], guard := none }) (v := ?_) rfl (by kernel_rfl) (by kernel_rfl) (by kernel_rfl) (fun _ _ _ h => h) (Or.inl ⟨by rfl, ?_⟩) hS ?_
  rotate_left
  · (intro w hSw; (try dsimp only at hSw); go_simp; (try with_reducible rfl))
  try simp only [Act.put, List.setIfInBounds_toArray, List.set_cons_zero, List.set_cons_succ]
  refine wpAnyH_take (i := 4) (oi := { dst := some 43, op := Go.Op.move (Go.Operand.tmp 0), type := 3, pos := "sha.go:52", after := #[], guard := none }) (v := ?_) rfl (by kernel_rfl) (by kernel_rfl) (by kernel_rfl) (fun _ _ _ h => h) (Or.inl ⟨by rfl, ?_⟩) hS ?_
  rotate_left
  · (intro w hSw; (try dsimp only at hSw); go_simp; (try with_reducible rfl))
  try simp only [Act.put, List.setIfInBounds_toArray, List.set_cons_zero, List.set_cons_succ]
  refine wpAnyH_take (i := 5) (oi := { dst := some 44, op := Go.Op.binOp Go.BinOp.add 3 (Go.Operand.tmp 43) (Go.Operand.const (Go.Value.int Go.IntKind.i64 9)) 3, type := 3, pos := "sha.go:52", after := #[{ on := 4, ground := Go.Ground.data }], guard := none }) (v := ?_) rfl (by kernel_rfl) (by kernel_rfl) (by kernel_rfl) (fun _ _ _ h => h) (Or.inl ⟨by rfl, ?_⟩) hS ?_
  rotate_left
  · (intro w hSw; (try dsimp only at hSw); go_simp; (try with_reducible rfl))
  try simp only [Act.put, List.setIfInBounds_toArray, List.set_cons_zero, List.set_cons_succ]
  refine wpAnyH_take (i := 6) (oi := { dst := some 45, op := Go.Op.binOp Go.BinOp.rem 3 (Go.Operand.tmp 44) (Go.Operand.const (Go.Value.int Go.IntKind.i64 16)) 3, type := 3, pos := "sha.go:52", after := #[{ on := 5, ground := Go.Ground.data }], guard := none }) (v := ?_) rfl (by kernel_rfl) (by kernel_rfl) (by kernel_rfl) (fun _ _ _ h => h) (Or.inl ⟨by rfl, ?_⟩) hS ?_
  rotate_left
  · (intro w hSw; (try dsimp only at hSw); go_simp; (try with_reducible rfl))
  try simp only [Act.put, List.setIfInBounds_toArray, List.set_cons_zero, List.set_cons_succ]
  refine wpAnyH_take (i := 7) (oi := { dst := some 46, op := Go.Op.indexAddr 37 (Go.Operand.tmp 1) (Go.Operand.tmp 45), type := 0, pos := "sha.go:52", after := #[{ on := 6, ground := Go.Ground.data }], guard := none }) (v := ?_) rfl (by kernel_rfl) (by kernel_rfl) (by kernel_rfl) (fun _ _ _ h => h) (Or.inl ⟨by rfl, ?_⟩) hS ?_
  rotate_left
  · (intro w hSw; (try dsimp only at hSw); go_simp; (try with_reducible rfl))
  try simp only [Act.put, List.setIfInBounds_toArray, List.set_cons_zero, List.set_cons_succ]
  refine wpAnyH_take (i := 8) (oi := { dst := some 47, op := Go.Op.load 23 (Go.Operand.tmp 46), type := 23, pos := "sha.go:52", after := #[{ on := 7, ground := Go.Ground.data }], guard := none }) (v := ?_) rfl (by kernel_rfl) (by kernel_rfl) (by kernel_rfl) (fun _ _ _ h => h) (Or.inl ⟨by rfl, ?_⟩) hS ?_
  rotate_left
  · (intro w hSw; (try dsimp only at hSw); go_simp; (try with_reducible rfl))
  try simp only [Act.put, List.setIfInBounds_toArray, List.set_cons_zero, List.set_cons_succ]
  refine wpAnyH_take (i := 9) (oi := { dst := some 48, op := Go.Op.binOp Go.BinOp.add 23 (Go.Operand.tmp 42) (Go.Operand.tmp 47) 23, type := 23, pos := "sha.go:52", after := #[{ on := 3, ground := Go.Ground.data }, { on := 8, ground := Go.Ground.data }], guard := none }) (v := ?_) rfl (by kernel_rfl) (by kernel_rfl) (by kernel_rfl) (fun _ _ _ h => h) (Or.inl ⟨by rfl, ?_⟩) hS ?_
  rotate_left
  · (intro w hSw; (try dsimp only at hSw); go_simp; (try with_reducible rfl))
  try simp only [Act.put, List.setIfInBounds_toArray, List.set_cons_zero, List.set_cons_succ]
  refine wpAnyH_take (i := 10) (oi := { dst := some 49, op := Go.Op.move (Go.Operand.tmp 8), type := 23, pos := "sha.go:52", after := #[], guard := none }) (v := ?_) rfl (by kernel_rfl) (by kernel_rfl) (by kernel_rfl) (fun _ _ _ h => h) (Or.inl ⟨by rfl, ?_⟩) hS ?_
  rotate_left
  · (intro w hSw; (try dsimp only at hSw); go_simp; (try with_reducible rfl))
  try simp only [Act.put, List.setIfInBounds_toArray, List.set_cons_zero, List.set_cons_succ]
  refine wpAnyH_take (i := 11) (oi := { dst := some 50, op := Go.Op.binOp Go.BinOp.add 23 (Go.Operand.tmp 48) (Go.Operand.tmp 49) 23, type := 23, pos := "sha.go:52", after := #[{ on := 9, ground := Go.Ground.data }, { on := 10, ground := Go.Ground.data }], guard := none }) (v := ?_) rfl (by kernel_rfl) (by kernel_rfl) (by kernel_rfl) (fun _ _ _ h => h) (Or.inl ⟨by rfl, ?_⟩) hS ?_
  rotate_left
  · (intro w hSw; (try dsimp only at hSw); go_simp; (try with_reducible rfl))
  try simp only [Act.put, List.setIfInBounds_toArray, List.set_cons_zero, List.set_cons_succ]
  refine wpAnyH_ready (rs := [2]) (by kernel_rfl) (by simp) ?_
  refine (AllReadyH.cons (o := { dst := some 41, op := Go.Op.load 23 (Go.Operand.tmp 40), type := 23, pos := "sha.go:52", after := #[{ on := 1, ground := Go.Ground.data }], guard := none }) rfl (fun K hK => ?_) AllReadyH.nil)
  go_simp
  refine hK.out _ _ c2 (fun hS => ?_)
  clear hK K
  try simp only [Act.put, List.setIfInBounds_toArray, List.set_cons_zero, List.set_cons_succ]
  refine wpAnyH_take (i := 12) (oi := { dst := some 51, op := Go.Op.binOp Go.BinOp.add 23 (Go.Operand.tmp 41) (Go.Operand.tmp 50) 23, type := 23, pos := "sha.go:52", after := #[{ on := 2, ground := Go.Ground.data }, { on := 11, ground := Go.Ground.data }], guard := none }) (v := ?_) rfl (by kernel_rfl) (by kernel_rfl) (by kernel_rfl) (fun _ _ _ h => h) (Or.inl ⟨by rfl, ?_⟩) hS ?_
  rotate_left
  · (intro w hSw; (try dsimp only at hSw); go_simp; (try with_reducible rfl))
  try simp only [Act.put, List.setIfInBounds_toArray, List.set_cons_zero, List.set_cons_succ]
  refine wpAnyH_take (i := 13) (oi := { dst := some 52, op := Go.Op.indexAddr 37 (Go.Operand.tmp 1) (Go.Operand.tmp 39), type := 0, pos := "sha.go:52", after := #[{ on := 0, ground := Go.Ground.data }, { on := 0, ground := Go.Ground.phase }, { on := 1, ground := Go.Ground.phase }, { on := 2, ground := Go.Ground.phase }, { on := 3, ground := Go.Ground.phase }, { on := 4, ground := Go.Ground.phase }, { on := 5, ground := Go.Ground.phase }, { on := 6, ground := Go.Ground.phase }, { on := 7, ground := Go.Ground.phase }, { on := 8, ground := Go.Ground.phase }, { on := 9, ground := Go.Ground.phase }, { on := 10, ground := Go.Ground.phase }, { on := 11, ground := Go.Ground.phase }, { on := 12, ground := Go.Ground.phase }], guard := none }) (v := ?_) rfl (by kernel_rfl) (by kernel_rfl) (by kernel_rfl) (fun _ _ _ h => h) (Or.inl ⟨by rfl, ?_⟩) hS ?_
  rotate_left
  · (intro w hSw; (try dsimp only at hSw); go_simp; (try with_reducible rfl))
  try simp only [Act.put, List.setIfInBounds_toArray, List.set_cons_zero, List.set_cons_succ]
  refine wpAnyH_ready (rs := [14]) (by kernel_rfl) (by simp) ?_
  refine (AllReadyH.cons (o := { dst := none, op := Go.Op.store 23 (Go.Operand.tmp 52) (Go.Operand.tmp 51), type := 0, pos := "sha.go:52", after := #[{ on := 13, ground := Go.Ground.data }, { on := 12, ground := Go.Ground.data }, { on := 0, ground := Go.Ground.phase }, { on := 1, ground := Go.Ground.phase }, { on := 2, ground := Go.Ground.phase }, { on := 3, ground := Go.Ground.phase }, { on := 4, ground := Go.Ground.phase }, { on := 5, ground := Go.Ground.phase }, { on := 6, ground := Go.Ground.phase }, { on := 7, ground := Go.Ground.phase }, { on := 8, ground := Go.Ground.phase }, { on := 9, ground := Go.Ground.phase }, { on := 10, ground := Go.Ground.phase }, { on := 11, ground := Go.Ground.phase }, { on := 12, ground := Go.Ground.phase }], guard := none }) rfl (fun K hK => ?_) AllReadyH.nil)
  go_simp
  refine hK.out _ _ (u32_other hE (show w.cell? ⟨br, p9, none⟩ = _ from c2) N9.out) (fun hS => ?_)
  clear hK K
  try simp only [Act.put, List.setIfInBounds_toArray, List.set_cons_zero, List.set_cons_succ]
  refine wpAnyH_done (by kernel_rfl) ?_ _
  have hV := next_sum o (ls0 x) z (ls1 y)
  have hr1 := Hr.out
  generalize hnv : (o + (ls0 x + z + ls1 y)) % 4294967296 = nv at hV hr1
  rw [hV]
  have hF := (hE.setCell 0 rfl p0 (.int .u32 (nv : Int))).drew.drew
  simp only [List.set_cons_zero] at hF
  rw [next_ring, ← hr1] at hF
  have hg : (ringAt r i).getD p0 0 = nv := ring_got hr1 (by rw [hl]; exact q0)
  generalize (w.setCell ⟨br, p0, none⟩ (.int .u32 (nv : Int))).drew.drew = w9 at hF ⊢
  have c9 := u32_at hF 0 rfl (k := p0) (by rw [hr1, List.length_set, hl]; exact q0)
  rw [hg] at c9
  have Hg := SL.hid hg
  clear hV hr1 hnv c0 c1 c2 c3 e0 e1 hg
  go_wp2_with (first | go_skip)
  go_ret
  exact ⟨_, rfl, by rw [Hg.out]; rfl, hF⟩
end Go.Proofs.YtpchnmcofkffiaaDoor
