/-
  Numbers of nine groups: the product and the order.
-/
import Derived.Test.YtpchnmcofkffiaaDoorRf1
import Derived.Laws.BitsLemmas
namespace Go.Proofs.YtpchnmcofkffiaaDoor
open Go.RowKit Go.SL

def tNum (o x y c : Nat) : Nat := ((o + x * y % 18446744073709551616) % 18446744073709551616 + c) % 18446744073709551616
theorem tNum_lt (o x y c : Nat) : tNum o x y c < 18446744073709551616 := Nat.mod_lt _ (by decide)
theorem tNum_int (o x y c : Nat) : IntKind.u64.wrap (IntKind.u64.wrap ((o : Int) + IntKind.u64.wrap ((x : Int) * (y : Int))) + (c : Int)) = ((tNum o x y c : Nat) : Int) := by
  simp only [IntKind.wrap_u64, tNum]
  rw [← Int.natCast_mul]
  generalize x * y = z
  omega
def tIn (a b : List Nat) (i : Nat) (s : List Nat) : Nat → List Nat × Nat
  | 0 => (s, 0)
  | k + 1 => ((tIn a b i s k).1.set (i + k) (tNum ((tIn a b i s k).1.getD (i + k) 0) (a.getD i 0) (b.getD k 0) (tIn a b i s k).2 % 65536), tNum ((tIn a b i s k).1.getD (i + k) 0) (a.getD i 0) (b.getD k 0) (tIn a b i s k).2 / 65536)
def tOut (a b : List Nat) : Nat → List Nat
  | 0 => zero9
  | i + 1 => (tIn a b i (tOut a b i) (9 - i)).1
def timesL (a b : List Nat) : List Nat := tOut a b 9
theorem tIn_len {a b s : List Nat} {i : Nat} (h : s.length = 9) : ∀ k, (tIn a b i s k).1.length = 9
  | 0 => h
  | k + 1 => by rw [tIn, List.length_set, tIn_len h k]
theorem tOut_len (a b : List Nat) : ∀ i, (tOut a b i).length = 9
  | 0 => rfl
  | i + 1 => tIn_len (tOut_len a b i) _

def lessAt (a b : List Nat) : Nat → Bool
  | 0 => false
  | i + 1 => if a.getD i 0 = b.getD i 0 then lessAt a b i else decide (a.getD i 0 < b.getD i 0)
def lessL (a b : List Nat) : Bool := lessAt a b 9

abbrev wideV (r : List Nat) : Value := .agg (r.map u64v).toArray

def TimesRel (a b : List Nat) (bo : Nat) (l : List HProp) (i : Value) (wr : World) : Prop :=
  ∃ k : Nat, k ≤ 9 ∧ i = .int .i64 k ∧ Ent (u64c bo 56 (tOut a b k) :: l) wr
def TimesIn (a b : List Nat) (bo i : Nat) (l : List HProp) (c k : Value) (wr : World) : Prop :=
  ∃ j : Nat, i + j ≤ 9 ∧ k = .int .i64 j ∧ c = .int .u64 (((tIn a b i (tOut a b i) j).2 : Nat) : Int) ∧ Ent (u64c bo 56 (tIn a b i (tOut a b i) j).1 :: l) wr

set_option maxRecDepth 100000 in
set_option maxHeartbeats 1000000 in
theorem times_any {l : List HProp} {w : World} {a b : List Nat} (ha : a.length = 9) (hb : b.length = 9) (hE : Ent l w) :
    Calls Tryd.prog 26 #[wideV a, wideV b] w (Ret fun v w' => v = wideV (timesL a b) ∧ Ent l w') := by
  have Ha := SL.hid ha
  have Hb := SL.hid hb
  have Hma : RowKit.Hid ((wideV a).cells = (a.map u64v).toArray) := SL.hid rfl
  clear ha hb
  go_enter Tryd.func26, Tryd.ntmps26
  go_wp2_with (first
    | go_skip
    | ((with_reducible (show Go.wpList _ _ _ (Go.Oper.mk _ (.box _ _) _ _ _ _ :: _) _ _)); refine wpl_box hE rfl rfl (v := wideV a) rfl ?_; clear hE; intro ba w1 hE1; simp only [Value.cells] at hE1)
    | ((with_reducible (show Go.wpList _ _ _ (Go.Oper.mk _ (.box _ _) _ _ _ _ :: _) _ _)); refine wpl_box hE1 rfl rfl (v := wideV b) rfl ?_; clear hE1; intro bb w1 hE2; simp only [Value.cells] at hE2)
    | ((with_reducible (show Go.wpList _ _ _ (Go.Oper.mk _ (.alloc _) _ _ _ _ :: _) _ _)); refine wpl_allocL hE2 rfl rfl (zs := zero9.map u64v) (size := 9) (bytes := 72) (by kernel_rfl) ?_; clear hE2; intro b0 w1 hE3)
    | ((with_reducible (show Go.wpList _ _ _ (Go.Oper.mk _ (.alloc _) _ _ _ _ :: _) _ _)); refine wpl_allocL hE3 rfl rfl (zs := zero9.map u64v) (size := 9) (bytes := 72) (by kernel_rfl) ?_; clear hE3; intro bo w1 hE))
  go_loopw [6] (fun i wr => TimesRel a b bo (u64c b0 56 zero9 :: u64c bb 56 b :: u64c ba 56 a :: l) i wr) (fun i _ => 9 - (intOf i).toNat)
  case atStart => exact ⟨0, Nat.zero_le _, rfl, hE⟩
  case round =>
    clear hE
    obtain ⟨i, hi, rfl, hE⟩ := hrel
    by_cases hlt : i < 9
    · have ii : (i : Int) < 9 := by omega
      have hI : Ent (u64c bo 56 (tIn a b i (tOut a b i) 0).1 :: u64c b0 56 zero9 :: u64c bb 56 b :: u64c ba 56 a :: l) wr := hE
      clear hE
      have Hfin : RowKit.Hid (tOut a b (i + 1) = (tIn a b i (tOut a b i) (9 - i)).1) := SL.hid rfl
      have Hsl := SL.hid (tOut_len a b i)
      go_wp2_with (first | go_skip)
      go_loopw [7, 8] (fun c k wr => TimesIn a b bo i (u64c b0 56 zero9 :: u64c bb 56 b :: u64c ba 56 a :: l) c k wr) (fun _ k _ => 9 - (intOf k).toNat)
      case atStart => exact ⟨0, by omega, rfl, rfl, hI⟩
      case round =>
        clear hI
        obtain ⟨k, hk, rfl, rfl, hE⟩ := hrel
        have Hlen := SL.hid (tIn_len (a := a) (b := b) (i := i) Hsl.out k)
        by_cases hlt2 : i + k < 9
        · have hn1 : (tIn a b i (tOut a b i) (k + 1)).1 = (tIn a b i (tOut a b i) k).1.set (i + k) (tNum ((tIn a b i (tOut a b i) k).1.getD (i + k) 0) (a.getD i 0) (b.getD k 0) (tIn a b i (tOut a b i) k).2 % 65536) := rfl
          have hn2 : (tIn a b i (tOut a b i) (k + 1)).2 = tNum ((tIn a b i (tOut a b i) k).1.getD (i + k) 0) (a.getD i 0) (b.getD k 0) (tIn a b i (tOut a b i) k).2 / 65536 := rfl
          obtain ⟨p, hp⟩ : ∃ p, p = i + k := ⟨_, rfl⟩
          rw [← hp] at hn1 hn2
          have q0 := u64_at hE.drew 0 rfl (k := p) (by rw [Hlen.out]; omega)
          have q1 := u64_at hE.drew 3 rfl (k := i) (by rw [Ha.out]; omega)
          have q2 := u64_at hE.drew 2 rfl (k := k) (by rw [Hb.out]; omega)
          generalize (tIn a b i (tOut a b i) k).1 = s at *
          generalize (tIn a b i (tOut a b i) k).2 = c at *
          have e1 := tNum_int (s.getD p 0) (a.getD i 0) (b.getD k 0) c
          have hN := tNum_lt (s.getD p 0) (a.getD i 0) (b.getD k 0) c
          generalize tNum (s.getD p 0) (a.getD i 0) (b.getD k 0) c = N at *
          generalize s.getD p 0 = v0 at *
          generalize a.getD i 0 = v1 at *
          generalize b.getD k 0 = v2 at *
          have x1 : (i : Int) + (k : Int) = (p : Int) := by omega
          have x2 : IntKind.i64.wrap (p : Int) = (p : Int) := wrap_small (by omega)
          have x3 : (p : Int) < 9 := by omega
          have x5 : p < 9 := by omega
          have x4 : (k : Int) < 9 := by omega
          have x6 : IntKind.u64.wrap ((N : Int) / 65536) = (N : Int) / 65536 := by rw [IntKind.wrap_u64]; omega
          have Hn1 := SL.hid hn1
          have Hn2 := SL.hid hn2
          clear hn1 hn2 hp
          go_wp2_with (first | go_skip)
          refine wp_region_held_drew (S := (fun w' => w'.cell? ⟨bo, p, none⟩ = some (.int .u64 (v0 : Int)) ∧ w'.cell? ⟨ba, i, none⟩ = some (.int .u64 (v1 : Int)) ∧ w'.cell? ⟨bb, k, none⟩ = some (.int .u64 (v2 : Int)))) (by kernel_rfl) ⟨q0, q1, q2⟩ (fun hS => ?_)
          refine wpAnyH_take (i := 0) (oi := { dst := some 20, op := Go.Op.move (Go.Operand.tmp 6), type := 3, pos := "ref.go:15", after := #[], guard := none }) (v := ?_) rfl (by kernel_rfl) (by kernel_rfl) (by kernel_rfl) (fun _ _ _ h => h) (Or.inl ⟨by rfl, ?_⟩) hS ?_
          rotate_left
          · (intro w hSw; (try dsimp only at hSw); go_simp; (try with_reducible rfl))
          try simp only [Act.put, List.setIfInBounds_toArray, List.set_cons_zero, List.set_cons_succ]
          refine wpAnyH_take (i := 1) (oi := { dst := some 21, op := Go.Op.move (Go.Operand.tmp 8), type := 3, pos := "ref.go:15", after := #[], guard := none }) (v := ?_) rfl (by kernel_rfl) (by kernel_rfl) (by kernel_rfl) (fun _ _ _ h => h) (Or.inl ⟨by rfl, ?_⟩) hS ?_
          rotate_left
          · (intro w hSw; (try dsimp only at hSw); go_simp; (try with_reducible rfl))
          try simp only [Act.put, List.setIfInBounds_toArray, List.set_cons_zero, List.set_cons_succ]
          refine wpAnyH_take (i := 2) (oi := { dst := some 22, op := Go.Op.binOp Go.BinOp.add 3 (Go.Operand.tmp 20) (Go.Operand.tmp 21) 3, type := 3, pos := "ref.go:15", after := #[{ on := 0, ground := Go.Ground.data }, { on := 1, ground := Go.Ground.data }], guard := none }) (v := ?_) rfl (by kernel_rfl) (by kernel_rfl) (by kernel_rfl) (fun _ _ _ h => h) (Or.inl ⟨by rfl, ?_⟩) hS ?_
          rotate_left
          · (intro w hSw; (try dsimp only at hSw); go_simp; (try with_reducible rfl))
          try simp only [Act.put, List.setIfInBounds_toArray, List.set_cons_zero, List.set_cons_succ]
          refine wpAnyH_take (i := 3) (oi := { dst := some 23, op := Go.Op.indexAddr 56 (Go.Operand.tmp 5) (Go.Operand.tmp 22), type := 0, pos := "ref.go:15", after := #[{ on := 2, ground := Go.Ground.data }], guard := none }) (v := ?_) rfl (by kernel_rfl) (by kernel_rfl) (by kernel_rfl) (fun _ _ _ h => h) (Or.inl ⟨by rfl, ?_⟩) hS ?_
          rotate_left
          · (intro w hSw; (try dsimp only at hSw); go_simp; (try with_reducible rfl))
          try simp only [Act.put, List.setIfInBounds_toArray, List.set_cons_zero, List.set_cons_succ]
          refine wpAnyH_take (i := 4) (oi := { dst := some 24, op := Go.Op.load 40 (Go.Operand.tmp 23), type := 40, pos := "ref.go:15", after := #[{ on := 3, ground := Go.Ground.data }], guard := none }) (v := ?_) rfl (by kernel_rfl) (by kernel_rfl) (by kernel_rfl) (fun _ _ _ h => h) (Or.inl ⟨by rfl, ?_⟩) hS ?_
          rotate_left
          · (intro w hSw; (try dsimp only at hSw); go_simp; (try with_reducible rfl))
          try simp only [Act.put, List.setIfInBounds_toArray, List.set_cons_zero, List.set_cons_succ]
          refine wpAnyH_take (i := 5) (oi := { dst := some 25, op := Go.Op.move (Go.Operand.tmp 6), type := 3, pos := "ref.go:15", after := #[], guard := none }) (v := ?_) rfl (by kernel_rfl) (by kernel_rfl) (by kernel_rfl) (fun _ _ _ h => h) (Or.inl ⟨by rfl, ?_⟩) hS ?_
          rotate_left
          · (intro w hSw; (try dsimp only at hSw); go_simp; (try with_reducible rfl))
          try simp only [Act.put, List.setIfInBounds_toArray, List.set_cons_zero, List.set_cons_succ]
          refine wpAnyH_take (i := 6) (oi := { dst := some 26, op := Go.Op.indexAddr 56 (Go.Operand.tmp 2) (Go.Operand.tmp 25), type := 0, pos := "ref.go:15", after := #[{ on := 5, ground := Go.Ground.data }], guard := none }) (v := ?_) rfl (by kernel_rfl) (by kernel_rfl) (by kernel_rfl) (fun _ _ _ h => h) (Or.inl ⟨by rfl, ?_⟩) hS ?_
          rotate_left
          · (intro w hSw; (try dsimp only at hSw); go_simp; (try with_reducible rfl))
          try simp only [Act.put, List.setIfInBounds_toArray, List.set_cons_zero, List.set_cons_succ]
          refine wpAnyH_take (i := 7) (oi := { dst := some 27, op := Go.Op.load 40 (Go.Operand.tmp 26), type := 40, pos := "ref.go:15", after := #[{ on := 6, ground := Go.Ground.data }], guard := none }) (v := ?_) rfl (by kernel_rfl) (by kernel_rfl) (by kernel_rfl) (fun _ _ _ h => h) (Or.inl ⟨by rfl, ?_⟩) hS ?_
          rotate_left
          · (intro w hSw; (try dsimp only at hSw); go_simp; (try with_reducible rfl))
          try simp only [Act.put, List.setIfInBounds_toArray, List.set_cons_zero, List.set_cons_succ]
          refine wpAnyH_take (i := 8) (oi := { dst := some 28, op := Go.Op.move (Go.Operand.tmp 8), type := 3, pos := "ref.go:15", after := #[], guard := none }) (v := ?_) rfl (by kernel_rfl) (by kernel_rfl) (by kernel_rfl) (fun _ _ _ h => h) (Or.inl ⟨by rfl, ?_⟩) hS ?_
          rotate_left
          · (intro w hSw; (try dsimp only at hSw); go_simp; (try with_reducible rfl))
          try simp only [Act.put, List.setIfInBounds_toArray, List.set_cons_zero, List.set_cons_succ]
          refine wpAnyH_take (i := 9) (oi := { dst := some 29, op := Go.Op.indexAddr 56 (Go.Operand.tmp 3) (Go.Operand.tmp 28), type := 0, pos := "ref.go:15", after := #[{ on := 8, ground := Go.Ground.data }], guard := none }) (v := ?_) rfl (by kernel_rfl) (by kernel_rfl) (by kernel_rfl) (fun _ _ _ h => h) (Or.inl ⟨by rfl, ?_⟩) hS ?_
          rotate_left
          · (intro w hSw; (try dsimp only at hSw); go_simp; (try with_reducible rfl))
          try simp only [Act.put, List.setIfInBounds_toArray, List.set_cons_zero, List.set_cons_succ]
          refine wpAnyH_take (i := 10) (oi := { dst := some 30, op := Go.Op.load 40 (Go.Operand.tmp 29), type := 40, pos := "ref.go:15", after := #[{ on := 9, ground := Go.Ground.data }], guard := none }) (v := ?_) rfl (by kernel_rfl) (by kernel_rfl) (by kernel_rfl) (fun _ _ _ h => h) (Or.inl ⟨by rfl, ?_⟩) hS ?_
          rotate_left
          · (intro w hSw; (try dsimp only at hSw); go_simp; (try with_reducible rfl))
          try simp only [Act.put, List.setIfInBounds_toArray, List.set_cons_zero, List.set_cons_succ]
          refine wpAnyH_take (i := 11) (oi := { dst := some 31, op := Go.Op.binOp Go.BinOp.mul 40 (Go.Operand.tmp 27) (Go.Operand.tmp 30) 40, type := 40, pos := "ref.go:15", after := #[{ on := 7, ground := Go.Ground.data }, { on := 10, ground := Go.Ground.data }], guard := none }) (v := ?_) rfl (by kernel_rfl) (by kernel_rfl) (by kernel_rfl) (fun _ _ _ h => h) (Or.inl ⟨by rfl, ?_⟩) hS ?_
          rotate_left
          · (intro w hSw; (try dsimp only at hSw); go_simp; (try with_reducible rfl))
          try simp only [Act.put, List.setIfInBounds_toArray, List.set_cons_zero, List.set_cons_succ]
          refine wpAnyH_take (i := 12) (oi := { dst := some 32, op := Go.Op.binOp Go.BinOp.add 40 (Go.Operand.tmp 24) (Go.Operand.tmp 31) 40, type := 40, pos := "ref.go:15", after := #[{ on := 4, ground := Go.Ground.data }, { on := 11, ground := Go.Ground.data }], guard := none }) (v := ?_) rfl (by kernel_rfl) (by kernel_rfl) (by kernel_rfl) (fun _ _ _ h => h) (Or.inl ⟨by rfl, ?_⟩) hS ?_
          rotate_left
          · (intro w hSw; (try dsimp only at hSw); go_simp; (try with_reducible rfl))
          try simp only [Act.put, List.setIfInBounds_toArray, List.set_cons_zero, List.set_cons_succ]
          refine wpAnyH_take (i := 13) (oi := { dst := some 33, op := Go.Op.move (Go.Operand.tmp 7), type := 40, pos := "ref.go:15", after := #[], guard := none }) (v := ?_) rfl (by kernel_rfl) (by kernel_rfl) (by kernel_rfl) (fun _ _ _ h => h) (Or.inl ⟨by rfl, ?_⟩) hS ?_
          rotate_left
          · (intro w hSw; (try dsimp only at hSw); go_simp; (try with_reducible rfl))
          try simp only [Act.put, List.setIfInBounds_toArray, List.set_cons_zero, List.set_cons_succ]
          refine wpAnyH_take (i := 14) (oi := { dst := some 34, op := Go.Op.binOp Go.BinOp.add 40 (Go.Operand.tmp 32) (Go.Operand.tmp 33) 40, type := 40, pos := "ref.go:15", after := #[{ on := 12, ground := Go.Ground.data }, { on := 13, ground := Go.Ground.data }], guard := none }) (v := ?_) rfl (by kernel_rfl) (by kernel_rfl) (by kernel_rfl) (fun _ _ _ h => h) (Or.inl ⟨by rfl, ?_⟩) hS ?_
          rotate_left
          · (intro w hSw; (try dsimp only at hSw); go_simp; (try with_reducible rfl))
          try simp only [Act.put, List.setIfInBounds_toArray, List.set_cons_zero, List.set_cons_succ]
          refine wpAnyH_take (i := 15) (oi := { dst := some 9, op := Go.Op.assign (Go.Operand.tmp 34), type := 40, pos := "ref.go:15", after := #[{ on := 14, ground := Go.Ground.data }, { on := 0, ground := Go.Ground.phase }, { on := 1, ground := Go.Ground.phase }, { on := 2, ground := Go.Ground.phase }, { on := 3, ground := Go.Ground.phase }, { on := 4, ground := Go.Ground.phase }, { on := 5, ground := Go.Ground.phase }, { on := 6, ground := Go.Ground.phase }, { on := 7, ground := Go.Ground.phase }, { on := 8, ground := Go.Ground.phase }, { on := 9, ground := Go.Ground.phase }, { on := 10, ground := Go.Ground.phase }, { on := 11, ground := Go.Ground.phase }, { on := 12, ground := Go.Ground.phase }, { on := 13, ground := Go.Ground.phase }, { on := 14, ground := Go.Ground.phase }], guard := none }) (v := ?_) rfl (by kernel_rfl) (by kernel_rfl) (by kernel_rfl) (fun _ _ _ h => h) (Or.inl ⟨by rfl, ?_⟩) hS ?_
          rotate_left
          · (intro w hSw; (try dsimp only at hSw); go_simp; (try with_reducible rfl))
          try simp only [Act.put, List.setIfInBounds_toArray, List.set_cons_zero, List.set_cons_succ]
          refine wpAnyH_done (by kernel_rfl) ?_ _
          clear q0 q1 q2 e1 hS
          have hE2 := hE.drew
          clear hE
          go_wp2_with (first
            | go_skip
            | ((with_reducible (show Go.wpList _ _ _ (Go.Oper.mk _ (.store _ _ _) _ _ _ _ :: _) _ _)); refine wpl_set1 hE2 0 rfl rfl rfl (off := p) rfl (v := .int .u64 ((N % 65536 : Nat) : Int)) rfl Tryd.sizeOf40 rfl rfl (by rw [List.length_map, Hlen.out]; exact x5) ?_; clear hE2; intro w5 hE; simp only [List.set_cons_zero] at hE; rw [u64_set, ← Hn1.out] at hE))
          go_roundw
          case rel => exact ⟨k + 1, by omega, by simp, by rw [Hn2.out]; simp, hE⟩
          case measure => simp [intOf]; omega
        · have hk9 : k = 9 - i := by omega
          have x1 : ¬ (i : Int) + (k : Int) < 9 := by omega
          have hE2 : Ent (u64c bo 56 (tOut a b (i + 1)) :: u64c b0 56 zero9 :: u64c bb 56 b :: u64c ba 56 a :: l) wr := by rw [Hfin.out, ← hk9]; exact hE
          clear hk9 hE
          go_wp2_with (first | go_skip)
          go_roundw
          case rel => exact ⟨i + 1, hlt, by simp, hE2⟩
          case measure => simp [intOf]; omega
    · obtain rfl : i = 9 := by omega
      have Hs := SL.hid (show ((tOut a b 9).map u64v).length = 9 by rw [List.length_map, tOut_len])
      have Hone := SL.hid (u64_one (tOut a b 9))
      go_wp2_with (first
        | go_skip
        | ((with_reducible (show Go.wpList _ _ _ (Go.Oper.mk _ (.load _ _) _ _ _ _ :: _) _ _)); refine wpl_loadW hE 0 rfl rfl rfl rfl Tryd.isAgg56 Tryd.sizeOf56 Hs.out ?_)
        | ((with_reducible (show Go.wpList _ _ _ (Go.Oper.mk _ (.store _ _ _) _ _ _ _ :: _) _ _)); refine wpl_storeN hE 1 rfl rfl rfl rfl rfl Tryd.sizeOf56 Hs.out Hone.out rfl ?_; clear hE; intro w9 hE; simp only [List.set_cons_zero, List.set_cons_succ] at hE))
      refine bodyPost_ret (results_cellA rfl hE 1 rfl rfl Tryd.isAgg56 Tryd.sizeOf56 Hs.out) rfl ⟨_, rfl, rfl, hE.tail.tail.tail.tail⟩
end Go.Proofs.YtpchnmcofkffiaaDoor
