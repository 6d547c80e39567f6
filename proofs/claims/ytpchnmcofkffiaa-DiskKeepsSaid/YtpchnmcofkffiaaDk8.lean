/-
  The law's disk that is known answers true.
-/
import Derived.Test.YtpchnmcofkffiaaDk7
import Derived.Deep.RegionHeld3
namespace Go.Proofs.Ytpchnmcofkffiaa
open Go.RowKit Go.SL

def kst (on : List (List UInt8)) (wait : List Wt) (dead : Bool) (acts : Int) : DS := ⟨-1, ⟨#[]⟩, on, wait, dead, acts⟩
def k0 : DS := kst [fullSec 0, fullSec 0] [] false 0
def k1 : DS := kst [fullSec 0, fullSec 0] [⟨fullSec 97, 0⟩] false 1
def k2 : DS := kst [fullSec 97, fullSec 0] [] false 2
def k3 : DS := kst [fullSec 97, fullSec 0] [⟨fullSec 98, 0⟩] false 3
def k4 : DS := kst [fullSec 97, fullSec 0] [⟨fullSec 98, 0⟩, ⟨fullSec 99, 1⟩] false 4
def k5 : DS := kst [fullSec 97, fullSec 99] [] true 4
def k6 : DS := kst [fullSec 97, fullSec 99] [] false 4

theorem k0_is : DS.new 2 = k0 := rfl
theorem k1_is : k0.writeE 0 512 = 0 ∧ k0.writeS 0 (fullSec 97) = k1 := by
  unfold DS.writeE DS.writeS; simp [k0, k1, kst, DS.acted, fullSec_length]
theorem k2_is : k1.flushE = 0 ∧ k1.flushS = k2 := by
  unfold DS.flushE DS.flushS; simp [k1, k2, kst, DS.acted, flushOn]
theorem k3_is : k2.writeE 0 512 = 0 ∧ k2.writeS 0 (fullSec 98) = k3 := by
  unfold DS.writeE DS.writeS; simp [k2, k3, kst, DS.acted, fullSec_length]
theorem k4_is : k3.writeE 1 512 = 0 ∧ k3.writeS 1 (fullSec 99) = k4 := by
  unfold DS.writeE DS.writeS; simp [k3, k4, kst, DS.acted, fullSec_length]
theorem kb0 : keepBit ⟨#[2]⟩ 0 = false := by decide
theorem kb1 : keepBit ⟨#[2]⟩ 1 = true := by decide
theorem k5_is : k4.powerE = 0 ∧ k4.crashS ⟨#[2]⟩ = k5 := by
  unfold DS.powerE DS.crashS; simp [k4, k5, kst, DS.goes, goesFrom, kb0, kb1]
theorem k6_is : k5.startS = k6 := rfl
theorem k0_good : k0.good := k0_is ▸ DS.good_new 2 (by decide)
theorem k1_good : k1.good := k1_is.2 ▸ k0_good.writeS 0 _
theorem k2_good : k2.good := k2_is.2 ▸ k1_good.flushS
theorem k3_good : k3.good := k3_is.2 ▸ k2_good.writeS 0 _
theorem k4_good : k4.good := k4_is.2 ▸ k3_good.writeS 1 _
theorem k5_good : k5.good := k5_is.2 ▸ k4_good.crashS _
theorem k6_good : k6.good := k6_is ▸ k5_good.startS

section
variable {l : List HProp} {w : World} {p g : Nat}
theorem kWrite {s s' : DS} {x : UInt8} {k : Int} (hs : s.writeE k 512 = 0 ∧ s.writeS k (fullSec x) = s') (hg : s.good) (hw : s.wait.length ≤ 1000000) (hE : Ent (rowB (some ⟨g, 0, none⟩) 512 (fullSec x) :: disk p s :: l) w) :
    Calls Try.prog 40 #[.pointer (some ⟨p, 0, none⟩), .int .i64 k, .slice (some ⟨g, 0, none⟩) 512 512] w (Ret fun v w' => v = .int .i64 0 ∧ Ent (disk p s' :: l) w') := by
  have h := Write_any (k := k) (b := fullSec x) (ab := some ⟨g, 0, none⟩) (cb := 512) (n := 512) (fullSec_length x).symm hg hw (fun w h => by have h2 := reads_row h 0 rfl; rw [fullSec_length] at h2; exact h2) (hE.front 1 rfl)
  rw [hs.1, hs.2] at h
  refine h.mono ?_
  rintro e w2 ⟨v, rfl, rfl, hE⟩
  exact ⟨_, rfl, rfl, hE.erase 1⟩
theorem kWrite1 (hE : Ent (rowB (some ⟨g, 0, none⟩) 512 (fullSec 97) :: disk p k0 :: l) w) :
    Calls Try.prog 40 #[.pointer (some ⟨p, 0, none⟩), .int .i64 0, .slice (some ⟨g, 0, none⟩) 512 512] w (Ret fun v w' => v = .int .i64 0 ∧ Ent (disk p k1 :: l) w') := kWrite k1_is k0_good (by decide) hE
theorem kWrite2 (hE : Ent (rowB (some ⟨g, 0, none⟩) 512 (fullSec 98) :: disk p k2 :: l) w) :
    Calls Try.prog 40 #[.pointer (some ⟨p, 0, none⟩), .int .i64 0, .slice (some ⟨g, 0, none⟩) 512 512] w (Ret fun v w' => v = .int .i64 0 ∧ Ent (disk p k3 :: l) w') := kWrite k3_is k2_good (by decide) hE
theorem kWrite3 (hE : Ent (rowB (some ⟨g, 0, none⟩) 512 (fullSec 99) :: disk p k3 :: l) w) :
    Calls Try.prog 40 #[.pointer (some ⟨p, 0, none⟩), .int .i64 1, .slice (some ⟨g, 0, none⟩) 512 512] w (Ret fun v w' => v = .int .i64 0 ∧ Ent (disk p k4 :: l) w') := kWrite k4_is k3_good (by decide) hE
theorem kFlush (hE : Ent (disk p k1 :: l) w) :
    Calls Try.prog 35 #[.pointer (some ⟨p, 0, none⟩)] w (Ret fun v w' => v = .int .i64 0 ∧ Ent (disk p k2 :: l) w') := by
  have h := Flush_any k1_good hE
  rwa [k2_is.1, k2_is.2] at h
theorem kCrash (hE : Ent (disk p k4 :: l) w) :
    Calls Try.prog 37 #[.pointer (some ⟨p, 0, none⟩), .string ⟨#[2]⟩] w (Ret fun v w' => v = .int .i64 0 ∧ Ent (disk p k5 :: l) w') := by
  have h := Crash_any ⟨#[2]⟩ k4_good hE
  rwa [k5_is.1, k5_is.2] at h
theorem kStart (hE : Ent (disk p k5 :: l) w) :
    Calls Try.prog 38 #[.pointer (some ⟨p, 0, none⟩)] w (Ret fun v w' => v = .int .i64 0 ∧ Ent (disk p k6 :: l) w') := Start_any hE
theorem kRead0 (hE : Ent (disk p k6 :: l) w) :
    Calls Try.prog 39 #[.pointer (some ⟨p, 0, none⟩), .int .i64 0] w (Ret fun v w' => ∃ q, v = .tuple #[.slice (some ⟨q, 0, none⟩) 512 512, .int .i64 0] ∧ Ent (view (.slice (some ⟨q, 0, none⟩) 512 512) 512 (bvals (fullSec 97)) :: disk p k6 :: l) w') := Read_any (k := 0) k6_good rfl (by decide) hE
theorem kRead1 {V : Value} {n : Nat} {xs : List Value} (hE : Ent (view V n xs :: disk p k6 :: l) w) :
    Calls Try.prog 39 #[.pointer (some ⟨p, 0, none⟩), .int .i64 1] w (Ret fun v w' => ∃ q, v = .tuple #[.slice (some ⟨q, 0, none⟩) 512 512, .int .i64 0] ∧ Ent (view (.slice (some ⟨q, 0, none⟩) 512 512) 512 (bvals (fullSec 99)) :: disk p k6 :: view V n xs :: l) w') := Read_any (k := 1) k6_good rfl (by decide) (hE.front 1 rfl)
theorem kNew (hE : Ent l w) :
    Calls Try.prog 32 #[.int .i64 2] w (Ret fun v w' => ∃ p, v = .tuple #[.pointer (some ⟨p, 0, none⟩), .int .i64 0] ∧ Ent (disk p k0 :: l) w') := New_in (n := 2) (by decide) (by decide) hE
theorem kActs (hE : Ent (disk p k6 :: l) w) : Calls Try.prog 48 #[.pointer (some ⟨p, 0, none⟩)] w fun x w' => x = .returned (.int .u64 4) ∧ w = w' := Acts_any hE
end

/-- the string of a slice that is read -/
theorem conv_view {w : World} {bs : List UInt8} {ao : Option Addr} {n c : Nat} (hr : reads (.slice ao n c) n (bvals bs) w) (hn : n = bs.length) : (convert 33 9 (.slice ao n c)).run Try.prog w = .ok (.string ⟨bs.toArray⟩) w :=
  bytesToString_reads (P := Try.prog) Try.underlying33 Try.underlying5 Try.underlying9 hr hn
theorem conv_full {w : World} {l : List HProp} {x : UInt8} {g : Nat} (i : Nat) (hE : Ent l w) (hi : l[i]? = some (rowB (some ⟨g, 0, none⟩) 512 (fullSec x))) : (convert 33 9 (.slice (some ⟨g, 0, none⟩) 512 512)).run Try.prog w = .ok (.string ⟨(fullSec x).toArray⟩) w := by
  have h := reads_row hE i hi
  rw [fullSec_length] at h
  exact conv_view h (fullSec_length x).symm
theorem conv_fullv {w : World} {l : List HProp} {x : UInt8} {g : Nat} (i : Nat) (hE : Ent l w) (hi : l[i]? = some (view (.slice (some ⟨g, 0, none⟩) 512 512) 512 (bvals (fullSec x)))) : (convert 33 9 (.slice (some ⟨g, 0, none⟩) 512 512)).run Try.prog w = .ok (.string ⟨(fullSec x).toArray⟩) w :=
  conv_view (hE.views i hi) (fullSec_length x).symm
theorem Full_a {l : List HProp} {w : World} {p : Nat} (hE : Ent (disk p k0 :: l) w) :
    Calls Try.prog 33 #[.int .u8 97] w (Ret fun v w' => ∃ g, v = .slice (some ⟨g, 0, none⟩) 512 512 ∧ Ent (rowB (some ⟨g, 0, none⟩) 512 (fullSec 97) :: disk p k0 :: l) w') := Full_any 97 hE
theorem Full_b {l : List HProp} {w : World} {p : Nat} (hE : Ent (disk p k2 :: l) w) :
    Calls Try.prog 33 #[.int .u8 98] w (Ret fun v w' => ∃ g, v = .slice (some ⟨g, 0, none⟩) 512 512 ∧ Ent (rowB (some ⟨g, 0, none⟩) 512 (fullSec 98) :: disk p k2 :: l) w') := Full_any 98 hE
theorem Full_c {l : List HProp} {w : World} {p : Nat} (hE : Ent (disk p k3 :: l) w) :
    Calls Try.prog 33 #[.int .u8 99] w (Ret fun v w' => ∃ g, v = .slice (some ⟨g, 0, none⟩) 512 512 ∧ Ent (rowB (some ⟨g, 0, none⟩) 512 (fullSec 99) :: disk p k3 :: l) w') := Full_any 99 hE
theorem Full_d {l : List HProp} {w : World} {n : Nat} {V : Value} {xs : List Value} (hE : Ent (view V n xs :: l) w) :
    Calls Try.prog 33 #[.int .u8 97] w (Ret fun v w' => ∃ g, v = .slice (some ⟨g, 0, none⟩) 512 512 ∧ Ent (rowB (some ⟨g, 0, none⟩) 512 (fullSec 97) :: view V n xs :: l) w') := Full_any 97 hE
theorem Full_e {l : List HProp} {w : World} {n e m : Nat} {U : Value} {xs : List Value} (hE : Ent (row e m U n xs :: l) w) :
    Calls Try.prog 33 #[.int .u8 99] w (Ret fun v w' => ∃ g, v = .slice (some ⟨g, 0, none⟩) 512 512 ∧ Ent (rowB (some ⟨g, 0, none⟩) 512 (fullSec 99) :: row e m U n xs :: l) w') := Full_any 99 hE
set_option maxRecDepth 100000 in
set_option maxHeartbeats 2000000 in
theorem wakes4_any {l : List HProp} {w : World} (hE : Ent l w) :
    Calls Try.prog 31 #[] w (Ret fun v w' => v = .bool true ∧ Ent l w') := by
  go_enter Try.func31, Try.ntmps31
  go_wp2_with (first
    | go_skip
    | (go_at_call 32; have H := kNew hE; refine H.mono ?_; clear H hE; rintro e w2 ⟨v, rfl, p, rfl, hE⟩)
    | (go_at_call 33; have H := Full_a hE; refine H.mono ?_; clear H hE; rintro e w2 ⟨v, rfl, g, rfl, hE⟩)
    | (go_at_call 33; have H := Full_b hE; refine H.mono ?_; clear H hE; rintro e w2 ⟨v, rfl, g, rfl, hE⟩)
    | (go_at_call 33; have H := Full_c hE; refine H.mono ?_; clear H hE; rintro e w2 ⟨v, rfl, g, rfl, hE⟩)
    | (go_at_call 40; have H := kWrite1 hE; refine H.mono ?_; clear H hE; rintro e w2 ⟨v, rfl, rfl, hE⟩)
    | (go_at_call 40; have H := kWrite2 hE; refine H.mono ?_; clear H hE; rintro e w2 ⟨v, rfl, rfl, hE⟩)
    | (go_at_call 40; have H := kWrite3 hE; refine H.mono ?_; clear H hE; rintro e w2 ⟨v, rfl, rfl, hE⟩)
    | (go_at_call 35; have H := kFlush hE; refine H.mono ?_; clear H hE; rintro e w2 ⟨v, rfl, rfl, hE⟩)
    | (go_at_call 37; have H := kCrash hE; refine H.mono ?_; clear H hE; rintro e w2 ⟨v, rfl, rfl, hE⟩)
    | (go_at_call 38; have H := kStart hE; refine H.mono ?_; clear H hE; rintro e w2 ⟨v, rfl, rfl, hE⟩)
    | (go_at_call 39; have H := kRead0 hE; refine H.mono ?_; clear H hE; rintro e w2 ⟨v, rfl, q0, rfl, hE⟩)
    | (go_at_call 39; have H := kRead1 hE; refine H.mono ?_; clear H hE; rintro e w2 ⟨v, rfl, q1, rfl, hE⟩))
  have hED := hE.drew
  have x1 := conv_fullv 2 hED rfl
  have y1 := conv_fullv 0 hED rfl
  clear hE
  refine wp_region_held_drew (S := (fun w' => Ent (view (.slice (some ⟨q1, 0, none⟩) 512 512) 512 (bvals (fullSec 99)) :: disk p k6 :: view (.slice (some ⟨q0, 0, none⟩) 512 512) 512 (bvals (fullSec 97)) :: l) w' ∧ (convert 33 9 (.slice (some ⟨q0, 0, none⟩) 512 512)).run Try.prog w' = .ok (.string ⟨(fullSec 97).toArray⟩) w' ∧ (convert 33 9 (.slice (some ⟨q1, 0, none⟩) 512 512)).run Try.prog w' = .ok (.string ⟨(fullSec 99).toArray⟩) w')) (by kernel_rfl) ⟨hED, x1, y1⟩ (fun hS => ?_)
  refine wpAnyH_take (i := 0) (oi := { dst := some 48, op := Go.Op.move (Go.Operand.tmp 3), type := 34, pos := "law.go:38", after := #[], guard := none }) (v := ?_) rfl (by kernel_rfl) (by kernel_rfl) (by kernel_rfl) (fun _ _ _ h => h) (Or.inl ⟨by rfl, ?_⟩) hS ?_
  rotate_left
  · (intro w hSw; (try dsimp only at hSw); go_simp; (try with_reducible rfl))
  try simp only [Act.put, List.setIfInBounds_toArray, List.set_cons_zero, List.set_cons_succ]
  refine wpAnyH_take (i := 1) (oi := { dst := some 49, op := Go.Op.binOp Go.BinOp.eql 34 (Go.Operand.tmp 48) (Go.Operand.const (Go.Value.int Go.IntKind.i64 0)) 34, type := 4, pos := "law.go:38", after := #[{ on := 0, ground := Go.Ground.data }], guard := none }) (v := ?_) rfl (by kernel_rfl) (by kernel_rfl) (by kernel_rfl) (fun _ _ _ h => h) (Or.inl ⟨by rfl, ?_⟩) hS ?_
  rotate_left
  · (intro w hSw; (try dsimp only at hSw); go_simp; (try with_reducible rfl))
  try simp only [Act.put, List.setIfInBounds_toArray, List.set_cons_zero, List.set_cons_succ]
  refine wpAnyH_take (i := 2) (oi := { dst := some 50, op := Go.Op.move (Go.Operand.tmp 49), type := 4, pos := "law.go:38", after := #[{ on := 1, ground := Go.Ground.data }], guard := none }) (v := ?_) rfl (by kernel_rfl) (by kernel_rfl) (by kernel_rfl) (fun _ _ _ h => h) (Or.inl ⟨by rfl, ?_⟩) hS ?_
  rotate_left
  · (intro w hSw; (try dsimp only at hSw); go_simp; (try with_reducible rfl))
  try simp only [Act.put, List.setIfInBounds_toArray, List.set_cons_zero, List.set_cons_succ]
  refine wpAnyH_take (i := 3) (oi := { dst := some 51, op := Go.Op.move (Go.Operand.tmp 4), type := 34, pos := "law.go:38", after := #[{ on := 2, ground := Go.Ground.guard }], guard := some (2, true) }) (v := ?_) rfl (by kernel_rfl) (by kernel_rfl) (by kernel_rfl) (fun _ _ _ h => h) (Or.inl ⟨by rfl, ?_⟩) hS ?_
  rotate_left
  · (intro w hSw; (try dsimp only at hSw); go_simp; (try with_reducible rfl))
  try simp only [Act.put, List.setIfInBounds_toArray, List.set_cons_zero, List.set_cons_succ]
  refine wpAnyH_take (i := 4) (oi := { dst := some 52, op := Go.Op.binOp Go.BinOp.eql 34 (Go.Operand.tmp 51) (Go.Operand.const (Go.Value.int Go.IntKind.i64 0)) 34, type := 4, pos := "law.go:38", after := #[{ on := 3, ground := Go.Ground.data }, { on := 2, ground := Go.Ground.guard }], guard := some (2, true) }) (v := ?_) rfl (by kernel_rfl) (by kernel_rfl) (by kernel_rfl) (fun _ _ _ h => h) (Or.inl ⟨by rfl, ?_⟩) hS ?_
  rotate_left
  · (intro w hSw; (try dsimp only at hSw); go_simp; (try with_reducible rfl))
  try simp only [Act.put, List.setIfInBounds_toArray, List.set_cons_zero, List.set_cons_succ]
  refine wpAnyH_take (i := 5) (oi := { dst := some 53, op := Go.Op.pick (Go.Operand.tmp 50) (Go.Operand.tmp 52) (Go.Operand.const (Go.Value.bool false)), type := 4, pos := "law.go:38", after := #[{ on := 2, ground := Go.Ground.data }, { on := 4, ground := Go.Ground.data }], guard := none }) (v := ?_) rfl (by kernel_rfl) (by kernel_rfl) (by kernel_rfl) (fun _ _ _ h => h) (Or.inl ⟨by rfl, ?_⟩) hS ?_
  rotate_left
  · (intro w hSw; (try dsimp only at hSw); go_simp; (try with_reducible rfl))
  try simp only [Act.put, List.setIfInBounds_toArray, List.set_cons_zero, List.set_cons_succ]
  refine wpAnyH_take (i := 6) (oi := { dst := some 54, op := Go.Op.move (Go.Operand.tmp 53), type := 4, pos := "law.go:38", after := #[{ on := 5, ground := Go.Ground.data }, { on := 2, ground := Go.Ground.chain }], guard := none }) (v := ?_) rfl (by kernel_rfl) (by kernel_rfl) (by kernel_rfl) (fun _ _ _ h => h) (Or.inl ⟨by rfl, ?_⟩) hS ?_
  rotate_left
  · (intro w hSw; (try dsimp only at hSw); go_simp; (try with_reducible rfl))
  try simp only [Act.put, List.setIfInBounds_toArray, List.set_cons_zero, List.set_cons_succ]
  refine wpAnyH_take (i := 7) (oi := { dst := some 55, op := Go.Op.move (Go.Operand.tmp 5), type := 34, pos := "law.go:38", after := #[{ on := 6, ground := Go.Ground.guard }], guard := some (6, true) }) (v := ?_) rfl (by kernel_rfl) (by kernel_rfl) (by kernel_rfl) (fun _ _ _ h => h) (Or.inl ⟨by rfl, ?_⟩) hS ?_
  rotate_left
  · (intro w hSw; (try dsimp only at hSw); go_simp; (try with_reducible rfl))
  try simp only [Act.put, List.setIfInBounds_toArray, List.set_cons_zero, List.set_cons_succ]
  refine wpAnyH_take (i := 8) (oi := { dst := some 56, op := Go.Op.binOp Go.BinOp.eql 34 (Go.Operand.tmp 55) (Go.Operand.const (Go.Value.int Go.IntKind.i64 0)) 34, type := 4, pos := "law.go:38", after := #[{ on := 7, ground := Go.Ground.data }, { on := 6, ground := Go.Ground.guard }], guard := some (6, true) }) (v := ?_) rfl (by kernel_rfl) (by kernel_rfl) (by kernel_rfl) (fun _ _ _ h => h) (Or.inl ⟨by rfl, ?_⟩) hS ?_
  rotate_left
  · (intro w hSw; (try dsimp only at hSw); go_simp; (try with_reducible rfl))
  try simp only [Act.put, List.setIfInBounds_toArray, List.set_cons_zero, List.set_cons_succ]
  refine wpAnyH_take (i := 9) (oi := { dst := some 57, op := Go.Op.pick (Go.Operand.tmp 54) (Go.Operand.tmp 56) (Go.Operand.const (Go.Value.bool false)), type := 4, pos := "law.go:38", after := #[{ on := 6, ground := Go.Ground.data }, { on := 8, ground := Go.Ground.data }], guard := none }) (v := ?_) rfl (by kernel_rfl) (by kernel_rfl) (by kernel_rfl) (fun _ _ _ h => h) (Or.inl ⟨by rfl, ?_⟩) hS ?_
  rotate_left
  · (intro w hSw; (try dsimp only at hSw); go_simp; (try with_reducible rfl))
  try simp only [Act.put, List.setIfInBounds_toArray, List.set_cons_zero, List.set_cons_succ]
  refine wpAnyH_take (i := 10) (oi := { dst := some 58, op := Go.Op.move (Go.Operand.tmp 57), type := 4, pos := "law.go:38", after := #[{ on := 9, ground := Go.Ground.data }, { on := 6, ground := Go.Ground.chain }], guard := none }) (v := ?_) rfl (by kernel_rfl) (by kernel_rfl) (by kernel_rfl) (fun _ _ _ h => h) (Or.inl ⟨by rfl, ?_⟩) hS ?_
  rotate_left
  · (intro w hSw; (try dsimp only at hSw); go_simp; (try with_reducible rfl))
  try simp only [Act.put, List.setIfInBounds_toArray, List.set_cons_zero, List.set_cons_succ]
  refine wpAnyH_take (i := 11) (oi := { dst := some 59, op := Go.Op.move (Go.Operand.tmp 6), type := 34, pos := "law.go:38", after := #[{ on := 10, ground := Go.Ground.guard }], guard := some (10, true) }) (v := ?_) rfl (by kernel_rfl) (by kernel_rfl) (by kernel_rfl) (fun _ _ _ h => h) (Or.inl ⟨by rfl, ?_⟩) hS ?_
  rotate_left
  · (intro w hSw; (try dsimp only at hSw); go_simp; (try with_reducible rfl))
  try simp only [Act.put, List.setIfInBounds_toArray, List.set_cons_zero, List.set_cons_succ]
  refine wpAnyH_take (i := 12) (oi := { dst := some 60, op := Go.Op.binOp Go.BinOp.eql 34 (Go.Operand.tmp 59) (Go.Operand.const (Go.Value.int Go.IntKind.i64 0)) 34, type := 4, pos := "law.go:38", after := #[{ on := 11, ground := Go.Ground.data }, { on := 10, ground := Go.Ground.guard }], guard := some (10, true) }) (v := ?_) rfl (by kernel_rfl) (by kernel_rfl) (by kernel_rfl) (fun _ _ _ h => h) (Or.inl ⟨by rfl, ?_⟩) hS ?_
  rotate_left
  · (intro w hSw; (try dsimp only at hSw); go_simp; (try with_reducible rfl))
  try simp only [Act.put, List.setIfInBounds_toArray, List.set_cons_zero, List.set_cons_succ]
  refine wpAnyH_take (i := 13) (oi := { dst := some 61, op := Go.Op.pick (Go.Operand.tmp 58) (Go.Operand.tmp 60) (Go.Operand.const (Go.Value.bool false)), type := 4, pos := "law.go:38", after := #[{ on := 10, ground := Go.Ground.data }, { on := 12, ground := Go.Ground.data }], guard := none }) (v := ?_) rfl (by kernel_rfl) (by kernel_rfl) (by kernel_rfl) (fun _ _ _ h => h) (Or.inl ⟨by rfl, ?_⟩) hS ?_
  rotate_left
  · (intro w hSw; (try dsimp only at hSw); go_simp; (try with_reducible rfl))
  try simp only [Act.put, List.setIfInBounds_toArray, List.set_cons_zero, List.set_cons_succ]
  refine wpAnyH_take (i := 14) (oi := { dst := some 62, op := Go.Op.move (Go.Operand.tmp 61), type := 4, pos := "law.go:38", after := #[{ on := 13, ground := Go.Ground.data }, { on := 10, ground := Go.Ground.chain }], guard := none }) (v := ?_) rfl (by kernel_rfl) (by kernel_rfl) (by kernel_rfl) (fun _ _ _ h => h) (Or.inl ⟨by rfl, ?_⟩) hS ?_
  rotate_left
  · (intro w hSw; (try dsimp only at hSw); go_simp; (try with_reducible rfl))
  try simp only [Act.put, List.setIfInBounds_toArray, List.set_cons_zero, List.set_cons_succ]
  refine wpAnyH_take (i := 15) (oi := { dst := some 63, op := Go.Op.move (Go.Operand.tmp 7), type := 34, pos := "law.go:38", after := #[{ on := 14, ground := Go.Ground.guard }], guard := some (14, true) }) (v := ?_) rfl (by kernel_rfl) (by kernel_rfl) (by kernel_rfl) (fun _ _ _ h => h) (Or.inl ⟨by rfl, ?_⟩) hS ?_
  rotate_left
  · (intro w hSw; (try dsimp only at hSw); go_simp; (try with_reducible rfl))
  try simp only [Act.put, List.setIfInBounds_toArray, List.set_cons_zero, List.set_cons_succ]
  refine wpAnyH_take (i := 16) (oi := { dst := some 64, op := Go.Op.binOp Go.BinOp.eql 34 (Go.Operand.tmp 63) (Go.Operand.const (Go.Value.int Go.IntKind.i64 0)) 34, type := 4, pos := "law.go:38", after := #[{ on := 15, ground := Go.Ground.data }, { on := 14, ground := Go.Ground.guard }], guard := some (14, true) }) (v := ?_) rfl (by kernel_rfl) (by kernel_rfl) (by kernel_rfl) (fun _ _ _ h => h) (Or.inl ⟨by rfl, ?_⟩) hS ?_
  rotate_left
  · (intro w hSw; (try dsimp only at hSw); go_simp; (try with_reducible rfl))
  try simp only [Act.put, List.setIfInBounds_toArray, List.set_cons_zero, List.set_cons_succ]
  refine wpAnyH_take (i := 17) (oi := { dst := some 65, op := Go.Op.pick (Go.Operand.tmp 62) (Go.Operand.tmp 64) (Go.Operand.const (Go.Value.bool false)), type := 4, pos := "law.go:38", after := #[{ on := 14, ground := Go.Ground.data }, { on := 16, ground := Go.Ground.data }], guard := none }) (v := ?_) rfl (by kernel_rfl) (by kernel_rfl) (by kernel_rfl) (fun _ _ _ h => h) (Or.inl ⟨by rfl, ?_⟩) hS ?_
  rotate_left
  · (intro w hSw; (try dsimp only at hSw); go_simp; (try with_reducible rfl))
  try simp only [Act.put, List.setIfInBounds_toArray, List.set_cons_zero, List.set_cons_succ]
  refine wpAnyH_take (i := 18) (oi := { dst := some 66, op := Go.Op.move (Go.Operand.tmp 65), type := 4, pos := "law.go:38", after := #[{ on := 17, ground := Go.Ground.data }, { on := 14, ground := Go.Ground.chain }], guard := none }) (v := ?_) rfl (by kernel_rfl) (by kernel_rfl) (by kernel_rfl) (fun _ _ _ h => h) (Or.inl ⟨by rfl, ?_⟩) hS ?_
  rotate_left
  · (intro w hSw; (try dsimp only at hSw); go_simp; (try with_reducible rfl))
  try simp only [Act.put, List.setIfInBounds_toArray, List.set_cons_zero, List.set_cons_succ]
  refine wpAnyH_take (i := 19) (oi := { dst := some 67, op := Go.Op.move (Go.Operand.tmp 8), type := 34, pos := "law.go:38", after := #[{ on := 18, ground := Go.Ground.guard }], guard := some (18, true) }) (v := ?_) rfl (by kernel_rfl) (by kernel_rfl) (by kernel_rfl) (fun _ _ _ h => h) (Or.inl ⟨by rfl, ?_⟩) hS ?_
  rotate_left
  · (intro w hSw; (try dsimp only at hSw); go_simp; (try with_reducible rfl))
  try simp only [Act.put, List.setIfInBounds_toArray, List.set_cons_zero, List.set_cons_succ]
  refine wpAnyH_take (i := 20) (oi := { dst := some 68, op := Go.Op.binOp Go.BinOp.eql 34 (Go.Operand.tmp 67) (Go.Operand.const (Go.Value.int Go.IntKind.i64 0)) 34, type := 4, pos := "law.go:38", after := #[{ on := 19, ground := Go.Ground.data }, { on := 18, ground := Go.Ground.guard }], guard := some (18, true) }) (v := ?_) rfl (by kernel_rfl) (by kernel_rfl) (by kernel_rfl) (fun _ _ _ h => h) (Or.inl ⟨by rfl, ?_⟩) hS ?_
  rotate_left
  · (intro w hSw; (try dsimp only at hSw); go_simp; (try with_reducible rfl))
  try simp only [Act.put, List.setIfInBounds_toArray, List.set_cons_zero, List.set_cons_succ]
  refine wpAnyH_take (i := 21) (oi := { dst := some 69, op := Go.Op.pick (Go.Operand.tmp 66) (Go.Operand.tmp 68) (Go.Operand.const (Go.Value.bool false)), type := 4, pos := "law.go:38", after := #[{ on := 18, ground := Go.Ground.data }, { on := 20, ground := Go.Ground.data }], guard := none }) (v := ?_) rfl (by kernel_rfl) (by kernel_rfl) (by kernel_rfl) (fun _ _ _ h => h) (Or.inl ⟨by rfl, ?_⟩) hS ?_
  rotate_left
  · (intro w hSw; (try dsimp only at hSw); go_simp; (try with_reducible rfl))
  try simp only [Act.put, List.setIfInBounds_toArray, List.set_cons_zero, List.set_cons_succ]
  refine wpAnyH_take (i := 22) (oi := { dst := some 70, op := Go.Op.move (Go.Operand.tmp 69), type := 4, pos := "law.go:38", after := #[{ on := 21, ground := Go.Ground.data }, { on := 18, ground := Go.Ground.chain }], guard := none }) (v := ?_) rfl (by kernel_rfl) (by kernel_rfl) (by kernel_rfl) (fun _ _ _ h => h) (Or.inl ⟨by rfl, ?_⟩) hS ?_
  rotate_left
  · (intro w hSw; (try dsimp only at hSw); go_simp; (try with_reducible rfl))
  try simp only [Act.put, List.setIfInBounds_toArray, List.set_cons_zero, List.set_cons_succ]
  refine wpAnyH_take (i := 23) (oi := { dst := some 71, op := Go.Op.move (Go.Operand.tmp 10), type := 34, pos := "law.go:38", after := #[{ on := 22, ground := Go.Ground.guard }], guard := some (22, true) }) (v := ?_) rfl (by kernel_rfl) (by kernel_rfl) (by kernel_rfl) (fun _ _ _ h => h) (Or.inl ⟨by rfl, ?_⟩) hS ?_
  rotate_left
  · (intro w hSw; (try dsimp only at hSw); go_simp; (try with_reducible rfl))
  try simp only [Act.put, List.setIfInBounds_toArray, List.set_cons_zero, List.set_cons_succ]
  refine wpAnyH_take (i := 24) (oi := { dst := some 72, op := Go.Op.binOp Go.BinOp.eql 34 (Go.Operand.tmp 71) (Go.Operand.const (Go.Value.int Go.IntKind.i64 0)) 34, type := 4, pos := "law.go:38", after := #[{ on := 23, ground := Go.Ground.data }, { on := 22, ground := Go.Ground.guard }], guard := some (22, true) }) (v := ?_) rfl (by kernel_rfl) (by kernel_rfl) (by kernel_rfl) (fun _ _ _ h => h) (Or.inl ⟨by rfl, ?_⟩) hS ?_
  rotate_left
  · (intro w hSw; (try dsimp only at hSw); go_simp; (try with_reducible rfl))
  try simp only [Act.put, List.setIfInBounds_toArray, List.set_cons_zero, List.set_cons_succ]
  refine wpAnyH_take (i := 25) (oi := { dst := some 73, op := Go.Op.pick (Go.Operand.tmp 70) (Go.Operand.tmp 72) (Go.Operand.const (Go.Value.bool false)), type := 4, pos := "law.go:38", after := #[{ on := 22, ground := Go.Ground.data }, { on := 24, ground := Go.Ground.data }], guard := none }) (v := ?_) rfl (by kernel_rfl) (by kernel_rfl) (by kernel_rfl) (fun _ _ _ h => h) (Or.inl ⟨by rfl, ?_⟩) hS ?_
  rotate_left
  · (intro w hSw; (try dsimp only at hSw); go_simp; (try with_reducible rfl))
  try simp only [Act.put, List.setIfInBounds_toArray, List.set_cons_zero, List.set_cons_succ]
  refine wpAnyH_take (i := 26) (oi := { dst := some 74, op := Go.Op.move (Go.Operand.tmp 73), type := 4, pos := "law.go:38", after := #[{ on := 25, ground := Go.Ground.data }, { on := 22, ground := Go.Ground.chain }], guard := none }) (v := ?_) rfl (by kernel_rfl) (by kernel_rfl) (by kernel_rfl) (fun _ _ _ h => h) (Or.inl ⟨by rfl, ?_⟩) hS ?_
  rotate_left
  · (intro w hSw; (try dsimp only at hSw); go_simp; (try with_reducible rfl))
  try simp only [Act.put, List.setIfInBounds_toArray, List.set_cons_zero, List.set_cons_succ]
  refine wpAnyH_take (i := 27) (oi := { dst := some 75, op := Go.Op.move (Go.Operand.tmp 12), type := 34, pos := "law.go:38", after := #[{ on := 26, ground := Go.Ground.guard }], guard := some (26, true) }) (v := ?_) rfl (by kernel_rfl) (by kernel_rfl) (by kernel_rfl) (fun _ _ _ h => h) (Or.inl ⟨by rfl, ?_⟩) hS ?_
  rotate_left
  · (intro w hSw; (try dsimp only at hSw); go_simp; (try with_reducible rfl))
  try simp only [Act.put, List.setIfInBounds_toArray, List.set_cons_zero, List.set_cons_succ]
  refine wpAnyH_take (i := 28) (oi := { dst := some 76, op := Go.Op.binOp Go.BinOp.eql 34 (Go.Operand.tmp 75) (Go.Operand.const (Go.Value.int Go.IntKind.i64 0)) 34, type := 4, pos := "law.go:38", after := #[{ on := 27, ground := Go.Ground.data }, { on := 26, ground := Go.Ground.guard }], guard := some (26, true) }) (v := ?_) rfl (by kernel_rfl) (by kernel_rfl) (by kernel_rfl) (fun _ _ _ h => h) (Or.inl ⟨by rfl, ?_⟩) hS ?_
  rotate_left
  · (intro w hSw; (try dsimp only at hSw); go_simp; (try with_reducible rfl))
  try simp only [Act.put, List.setIfInBounds_toArray, List.set_cons_zero, List.set_cons_succ]
  refine wpAnyH_take (i := 29) (oi := { dst := some 77, op := Go.Op.pick (Go.Operand.tmp 74) (Go.Operand.tmp 76) (Go.Operand.const (Go.Value.bool false)), type := 4, pos := "law.go:38", after := #[{ on := 26, ground := Go.Ground.data }, { on := 28, ground := Go.Ground.data }], guard := none }) (v := ?_) rfl (by kernel_rfl) (by kernel_rfl) (by kernel_rfl) (fun _ _ _ h => h) (Or.inl ⟨by rfl, ?_⟩) hS ?_
  rotate_left
  · (intro w hSw; (try dsimp only at hSw); go_simp; (try with_reducible rfl))
  try simp only [Act.put, List.setIfInBounds_toArray, List.set_cons_zero, List.set_cons_succ]
  refine wpAnyH_take (i := 30) (oi := { dst := some 78, op := Go.Op.move (Go.Operand.tmp 77), type := 4, pos := "law.go:38", after := #[{ on := 29, ground := Go.Ground.data }, { on := 26, ground := Go.Ground.chain }], guard := none }) (v := ?_) rfl (by kernel_rfl) (by kernel_rfl) (by kernel_rfl) (fun _ _ _ h => h) (Or.inl ⟨by rfl, ?_⟩) hS ?_
  rotate_left
  · (intro w hSw; (try dsimp only at hSw); go_simp; (try with_reducible rfl))
  try simp only [Act.put, List.setIfInBounds_toArray, List.set_cons_zero, List.set_cons_succ]
  refine wpAnyH_take (i := 31) (oi := { dst := some 79, op := Go.Op.move (Go.Operand.tmp 9), type := 33, pos := "law.go:38", after := #[{ on := 30, ground := Go.Ground.guard }], guard := some (30, true) }) (v := ?_) rfl (by kernel_rfl) (by kernel_rfl) (by kernel_rfl) (fun _ _ _ h => h) (Or.inl ⟨by rfl, ?_⟩) hS ?_
  rotate_left
  · (intro w hSw; (try dsimp only at hSw); go_simp; (try with_reducible rfl))
  try simp only [Act.put, List.setIfInBounds_toArray, List.set_cons_zero, List.set_cons_succ]
  refine wpAnyH_take (i := 32) (oi := { dst := some 80, op := Go.Op.convert 33 9 (Go.Operand.tmp 79), type := 9, pos := "law.go:38", after := #[{ on := 31, ground := Go.Ground.data }, { on := 30, ground := Go.Ground.guard }], guard := some (30, true) }) (v := ?_) rfl (by kernel_rfl) (by kernel_rfl) (by kernel_rfl) (fun _ _ _ h => h) (Or.inl ⟨by rfl, ?_⟩) hS ?_
  rotate_left
  · (intro w hSw; (try dsimp only at hSw); go_simp; (try with_reducible rfl))
  try simp only [Act.put, List.setIfInBounds_toArray, List.set_cons_zero, List.set_cons_succ]
  refine wpAnyH_ready (rs := [33]) (by kernel_rfl) (by simp) ?_
  refine (AllReadyH.cons (o := { dst := some 81, op := Go.Op.call { callee := Go.Callee.value (Go.Operand.func 33), args := #[Go.Operand.const (Go.Value.int Go.IntKind.u8 97)], argTypes := #[5] }, type := 33, pos := "law.go:38", after := #[{ on := 30, ground := Go.Ground.chain }, { on := 30, ground := Go.Ground.guard }], guard := some (30, true) }) rfl (fun K hK => ?_) AllReadyH.nil)
  (go_simp; (go_at_call 33; have H := Full_d hED; refine H.mono ?_; clear H; rintro e w3 ⟨v, rfl, g3, rfl, hE3⟩; have x3 := conv_fullv 3 hE3 rfl; have y3 := conv_fullv 1 hE3 rfl; have z3 := conv_full 0 hE3 rfl))
  refine hK.out _ _ ⟨hE3.tail, x3, y3⟩ (fun hS => ?_)
  clear hK K
  try simp only [Act.put, List.setIfInBounds_toArray, List.set_cons_zero, List.set_cons_succ]
  refine wpAnyH_ready (rs := [34]) (by kernel_rfl) (by simp) ?_
  refine (AllReadyH.cons (o := { dst := some 82, op := Go.Op.convert 33 9 (Go.Operand.tmp 81), type := 9, pos := "law.go:38", after := #[{ on := 33, ground := Go.Ground.data }, { on := 30, ground := Go.Ground.guard }], guard := some (30, true) }) rfl (fun K hK => ?_) AllReadyH.nil)
  go_simp
  refine hK.out _ _ ⟨hE3.tail, x3, y3⟩ (fun hS => ?_)
  clear hK K
  try simp only [Act.put, List.setIfInBounds_toArray, List.set_cons_zero, List.set_cons_succ]
  refine wpAnyH_take (i := 35) (oi := { dst := some 83, op := Go.Op.binOp Go.BinOp.eql 9 (Go.Operand.tmp 80) (Go.Operand.tmp 82) 9, type := 4, pos := "law.go:38", after := #[{ on := 32, ground := Go.Ground.data }, { on := 34, ground := Go.Ground.data }, { on := 30, ground := Go.Ground.guard }], guard := some (30, true) }) (v := ?_) rfl (by kernel_rfl) (by kernel_rfl) (by kernel_rfl) (fun _ _ _ h => h) (Or.inl ⟨by rfl, ?_⟩) hS ?_
  rotate_left
  · (intro w hSw; (try dsimp only at hSw); go_simp; (try with_reducible rfl))
  try simp only [Act.put, List.setIfInBounds_toArray, List.set_cons_zero, List.set_cons_succ]
  refine wpAnyH_take (i := 36) (oi := { dst := some 84, op := Go.Op.pick (Go.Operand.tmp 78) (Go.Operand.tmp 83) (Go.Operand.const (Go.Value.bool false)), type := 4, pos := "law.go:38", after := #[{ on := 30, ground := Go.Ground.data }, { on := 35, ground := Go.Ground.data }], guard := none }) (v := ?_) rfl (by kernel_rfl) (by kernel_rfl) (by kernel_rfl) (fun _ _ _ h => h) (Or.inl ⟨by rfl, ?_⟩) hS ?_
  rotate_left
  · (intro w hSw; (try dsimp only at hSw); go_simp; (try with_reducible rfl))
  try simp only [Act.put, List.setIfInBounds_toArray, List.set_cons_zero, List.set_cons_succ]
  refine wpAnyH_take (i := 37) (oi := { dst := some 85, op := Go.Op.move (Go.Operand.tmp 84), type := 4, pos := "law.go:38", after := #[{ on := 36, ground := Go.Ground.data }, { on := 33, ground := Go.Ground.chain }], guard := none }) (v := ?_) rfl (by kernel_rfl) (by kernel_rfl) (by kernel_rfl) (fun _ _ _ h => h) (Or.inl ⟨by rfl, ?_⟩) hS ?_
  rotate_left
  · (intro w hSw; (try dsimp only at hSw); go_simp; (try with_reducible rfl))
  try simp only [Act.put, List.setIfInBounds_toArray, List.set_cons_zero, List.set_cons_succ]
  refine wpAnyH_take (i := 38) (oi := { dst := some 86, op := Go.Op.move (Go.Operand.tmp 11), type := 33, pos := "law.go:38", after := #[{ on := 37, ground := Go.Ground.guard }], guard := some (37, true) }) (v := ?_) rfl (by kernel_rfl) (by kernel_rfl) (by kernel_rfl) (fun _ _ _ h => h) (Or.inl ⟨by rfl, ?_⟩) hS ?_
  rotate_left
  · (intro w hSw; (try dsimp only at hSw); go_simp; (try with_reducible rfl))
  try simp only [Act.put, List.setIfInBounds_toArray, List.set_cons_zero, List.set_cons_succ]
  refine wpAnyH_take (i := 39) (oi := { dst := some 87, op := Go.Op.convert 33 9 (Go.Operand.tmp 86), type := 9, pos := "law.go:38", after := #[{ on := 38, ground := Go.Ground.data }, { on := 37, ground := Go.Ground.guard }], guard := some (37, true) }) (v := ?_) rfl (by kernel_rfl) (by kernel_rfl) (by kernel_rfl) (fun _ _ _ h => h) (Or.inl ⟨by rfl, ?_⟩) hS ?_
  rotate_left
  · (intro w hSw; (try dsimp only at hSw); go_simp; (try with_reducible rfl))
  try simp only [Act.put, List.setIfInBounds_toArray, List.set_cons_zero, List.set_cons_succ]
  refine wpAnyH_ready (rs := [40]) (by kernel_rfl) (by simp) ?_
  refine (AllReadyH.cons (o := { dst := some 88, op := Go.Op.call { callee := Go.Callee.value (Go.Operand.func 33), args := #[Go.Operand.const (Go.Value.int Go.IntKind.u8 99)], argTypes := #[5] }, type := 33, pos := "law.go:38", after := #[{ on := 37, ground := Go.Ground.chain }, { on := 37, ground := Go.Ground.guard }], guard := some (37, true) }) rfl (fun K hK => ?_) AllReadyH.nil)
  (go_simp; (go_at_call 33; have H := Full_e hE3; refine H.mono ?_; clear H; rintro e w4 ⟨v, rfl, g4, rfl, hE4⟩; have x4 := conv_fullv 4 hE4 rfl; have y4 := conv_fullv 2 hE4 rfl; have z4 := conv_full 0 hE4 rfl))
  refine hK.out _ _ ⟨hE4.tail.tail, x4, y4⟩ (fun hS => ?_)
  clear hK K
  try simp only [Act.put, List.setIfInBounds_toArray, List.set_cons_zero, List.set_cons_succ]
  refine wpAnyH_ready (rs := [41]) (by kernel_rfl) (by simp) ?_
  refine (AllReadyH.cons (o := { dst := some 89, op := Go.Op.convert 33 9 (Go.Operand.tmp 88), type := 9, pos := "law.go:38", after := #[{ on := 40, ground := Go.Ground.data }, { on := 37, ground := Go.Ground.guard }], guard := some (37, true) }) rfl (fun K hK => ?_) AllReadyH.nil)
  go_simp
  refine hK.out _ _ ⟨hE4.tail.tail, x4, y4⟩ (fun hS => ?_)
  clear hK K
  try simp only [Act.put, List.setIfInBounds_toArray, List.set_cons_zero, List.set_cons_succ]
  refine wpAnyH_take (i := 42) (oi := { dst := some 90, op := Go.Op.binOp Go.BinOp.eql 9 (Go.Operand.tmp 87) (Go.Operand.tmp 89) 9, type := 4, pos := "law.go:38", after := #[{ on := 39, ground := Go.Ground.data }, { on := 41, ground := Go.Ground.data }, { on := 37, ground := Go.Ground.guard }], guard := some (37, true) }) (v := ?_) rfl (by kernel_rfl) (by kernel_rfl) (by kernel_rfl) (fun _ _ _ h => h) (Or.inl ⟨by rfl, ?_⟩) hS ?_
  rotate_left
  · (intro w hSw; (try dsimp only at hSw); go_simp; (try with_reducible rfl))
  try simp only [Act.put, List.setIfInBounds_toArray, List.set_cons_zero, List.set_cons_succ]
  refine wpAnyH_take (i := 43) (oi := { dst := some 91, op := Go.Op.pick (Go.Operand.tmp 85) (Go.Operand.tmp 90) (Go.Operand.const (Go.Value.bool false)), type := 4, pos := "law.go:38", after := #[{ on := 37, ground := Go.Ground.data }, { on := 42, ground := Go.Ground.data }], guard := none }) (v := ?_) rfl (by kernel_rfl) (by kernel_rfl) (by kernel_rfl) (fun _ _ _ h => h) (Or.inl ⟨by rfl, ?_⟩) hS ?_
  rotate_left
  · (intro w hSw; (try dsimp only at hSw); go_simp; (try with_reducible rfl))
  try simp only [Act.put, List.setIfInBounds_toArray, List.set_cons_zero, List.set_cons_succ]
  refine wpAnyH_take (i := 44) (oi := { dst := some 92, op := Go.Op.move (Go.Operand.tmp 91), type := 4, pos := "law.go:38", after := #[{ on := 43, ground := Go.Ground.data }, { on := 40, ground := Go.Ground.chain }], guard := none }) (v := ?_) rfl (by kernel_rfl) (by kernel_rfl) (by kernel_rfl) (fun _ _ _ h => h) (Or.inl ⟨by rfl, ?_⟩) hS ?_
  rotate_left
  · (intro w hSw; (try dsimp only at hSw); go_simp; (try with_reducible rfl))
  try simp only [Act.put, List.setIfInBounds_toArray, List.set_cons_zero, List.set_cons_succ]
  refine wpAnyH_take (i := 45) (oi := { dst := some 93, op := Go.Op.move (Go.Operand.tmp 1), type := 54, pos := "law.go:38", after := #[{ on := 44, ground := Go.Ground.guard }], guard := some (44, true) }) (v := ?_) rfl (by kernel_rfl) (by kernel_rfl) (by kernel_rfl) (fun _ _ _ h => h) (Or.inl ⟨by rfl, ?_⟩) hS ?_
  rotate_left
  · (intro w hSw; (try dsimp only at hSw); go_simp; (try with_reducible rfl))
  try simp only [Act.put, List.setIfInBounds_toArray, List.set_cons_zero, List.set_cons_succ]
  refine wpAnyH_ready (rs := [46]) (by kernel_rfl) (by simp) ?_
  refine (AllReadyH.cons (o := { dst := some 94, op := Go.Op.call { callee := Go.Callee.value (Go.Operand.func 48), args := #[Go.Operand.tmp 93], argTypes := #[54] }, type := 25, pos := "law.go:38", after := #[{ on := 45, ground := Go.Ground.data }, { on := 44, ground := Go.Ground.chain }, { on := 44, ground := Go.Ground.guard }], guard := some (44, true) }) rfl (fun K hK => ?_) AllReadyH.nil)
  (go_simp; (go_at_call 48; have H := kActs (hE4.front 3 rfl); refine H.mono ?_; clear H; rintro e w5 ⟨rfl, rfl⟩))
  refine hK.out _ _ ⟨hE4.tail.tail, x4, y4⟩ (fun hS => ?_)
  clear hK K
  try simp only [Act.put, List.setIfInBounds_toArray, List.set_cons_zero, List.set_cons_succ]
  refine wpAnyH_take (i := 47) (oi := { dst := some 95, op := Go.Op.binOp Go.BinOp.eql 25 (Go.Operand.tmp 94) (Go.Operand.const (Go.Value.int Go.IntKind.u64 4)) 25, type := 4, pos := "law.go:38", after := #[{ on := 46, ground := Go.Ground.data }, { on := 44, ground := Go.Ground.guard }], guard := some (44, true) }) (v := ?_) rfl (by kernel_rfl) (by kernel_rfl) (by kernel_rfl) (fun _ _ _ h => h) (Or.inl ⟨by rfl, ?_⟩) hS ?_
  rotate_left
  · (intro w hSw; (try dsimp only at hSw); go_simp; (try with_reducible rfl))
  try simp only [Act.put, List.setIfInBounds_toArray, List.set_cons_zero, List.set_cons_succ]
  refine wpAnyH_take (i := 48) (oi := { dst := some 96, op := Go.Op.pick (Go.Operand.tmp 92) (Go.Operand.tmp 95) (Go.Operand.const (Go.Value.bool false)), type := 4, pos := "law.go:38", after := #[{ on := 44, ground := Go.Ground.data }, { on := 47, ground := Go.Ground.data }], guard := none }) (v := ?_) rfl (by kernel_rfl) (by kernel_rfl) (by kernel_rfl) (fun _ _ _ h => h) (Or.inl ⟨by rfl, ?_⟩) hS ?_
  rotate_left
  · (intro w hSw; (try dsimp only at hSw); go_simp; (try with_reducible rfl))
  try simp only [Act.put, List.setIfInBounds_toArray, List.set_cons_zero, List.set_cons_succ]
  refine wpAnyH_take (i := 49) (oi := { dst := some 0, op := Go.Op.assign (Go.Operand.tmp 96), type := 4, pos := "law.go:38", after := #[{ on := 48, ground := Go.Ground.data }, { on := 46, ground := Go.Ground.chain }, { on := 0, ground := Go.Ground.phase }, { on := 1, ground := Go.Ground.phase }, { on := 2, ground := Go.Ground.phase }, { on := 3, ground := Go.Ground.phase }, { on := 4, ground := Go.Ground.phase }, { on := 5, ground := Go.Ground.phase }, { on := 6, ground := Go.Ground.phase }, { on := 7, ground := Go.Ground.phase }, { on := 8, ground := Go.Ground.phase }, { on := 9, ground := Go.Ground.phase }, { on := 10, ground := Go.Ground.phase }, { on := 11, ground := Go.Ground.phase }, { on := 12, ground := Go.Ground.phase }, { on := 13, ground := Go.Ground.phase }, { on := 14, ground := Go.Ground.phase }, { on := 15, ground := Go.Ground.phase }, { on := 16, ground := Go.Ground.phase }, { on := 17, ground := Go.Ground.phase }, { on := 18, ground := Go.Ground.phase }, { on := 19, ground := Go.Ground.phase }, { on := 20, ground := Go.Ground.phase }, { on := 21, ground := Go.Ground.phase }, { on := 22, ground := Go.Ground.phase }, { on := 23, ground := Go.Ground.phase }, { on := 24, ground := Go.Ground.phase }, { on := 25, ground := Go.Ground.phase }, { on := 26, ground := Go.Ground.phase }, { on := 27, ground := Go.Ground.phase }, { on := 28, ground := Go.Ground.phase }, { on := 29, ground := Go.Ground.phase }, { on := 30, ground := Go.Ground.phase }, { on := 31, ground := Go.Ground.phase }, { on := 32, ground := Go.Ground.phase }, { on := 33, ground := Go.Ground.phase }, { on := 34, ground := Go.Ground.phase }, { on := 35, ground := Go.Ground.phase }, { on := 36, ground := Go.Ground.phase }, { on := 37, ground := Go.Ground.phase }, { on := 38, ground := Go.Ground.phase }, { on := 39, ground := Go.Ground.phase }, { on := 40, ground := Go.Ground.phase }, { on := 41, ground := Go.Ground.phase }, { on := 42, ground := Go.Ground.phase }, { on := 43, ground := Go.Ground.phase }, { on := 44, ground := Go.Ground.phase }, { on := 45, ground := Go.Ground.phase }, { on := 46, ground := Go.Ground.phase }, { on := 47, ground := Go.Ground.phase }, { on := 48, ground := Go.Ground.phase }], guard := none }) (v := ?_) rfl (by kernel_rfl) (by kernel_rfl) (by kernel_rfl) (fun _ _ _ h => h) (Or.inl ⟨by rfl, ?_⟩) hS ?_
  rotate_left
  · (intro w hSw; (try dsimp only at hSw); go_simp; (try with_reducible rfl))
  try simp only [Act.put, List.setIfInBounds_toArray, List.set_cons_zero, List.set_cons_succ]
  refine wpAnyH_done (by kernel_rfl) ?_ _
  all_goals
    go_wp2
    go_ret
    exact ⟨_, rfl, rfl, hE4.tail.tail.tail.tail.tail⟩
end Go.Proofs.Ytpchnmcofkffiaa
