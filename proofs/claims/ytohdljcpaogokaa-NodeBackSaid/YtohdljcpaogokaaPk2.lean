/-
  Proved here, with no condition but the lengths that are named: the closure of the number writer makes the number's bytes, highest first.
-/
import Derived.Test.YtohdljcpaogokaaPk1
namespace Go.Proofs.Ytohdljcpaogokaa
open Go.RowKit Go.SL

def be : Nat → Nat → List UInt8
  | 0, _ => []
  | w + 1, n => UInt8.ofNat (n / 256 ^ w) :: be w n

theorem be_val (n k : Nat) : bvals [UInt8.ofNat (n / 256 ^ k)] = [.int .u8 ((n : Int) / 2 ^ (8 * k) % 256)] := by
  simp only [bvals, List.map_cons, List.map_nil, bval, UInt8.toNat_ofNat']
  congr 2
  rw [show (256 : Nat) = 2 ^ 8 from rfl, ← Nat.pow_mul]
  simp

/-- a closure that makes bytes -/
def Makes (k : FuncId) (caps : Array Value) (l : List HProp) (ys : List UInt8) : Prop :=
  ∀ (m : List HProp) (w : World), Ent (m ++ l) w → Calls Try.prog k caps w (Ret fun v w' => Ent (m ++ l) w' ∧ reads v ys.length (bvals ys) w')

def PutRel (width n : Nat) (l : List HProp) (sv i : Value) (wr : World) : Prop :=
  ∃ (dn : List UInt8) (k : Nat) (ao : Option Addr) (c : Nat), sv = .slice ao dn.length c ∧ dn.length + k ≤ 8 ∧ dn ++ be k n = be width n ∧ i = .int .i64 ((k : Int) - 1) ∧ Ent (rowB ao c dn :: l) wr

set_option maxRecDepth 100000 in
set_option maxHeartbeats 400000 in
theorem Put1_any (bw bn : Nat) (width n : Nat) (hw : width ≤ 8) (l : List HProp) (i j : Nat)
   (hi : l[i]? = some (pt bw (.cells #[.int .i64 width] 3))) (hj : l[j]? = some (pt bn (.cells #[.int .u64 n] 91))) : Makes 76 #[.pointer (some ⟨bw, 0, none⟩), .pointer (some ⟨bn, 0, none⟩)] l (be width n) := by
  intro m w hE
  have hcw : ∀ w, Ent (m ++ l) w → w.cell? ⟨bw, 0, none⟩ = some (.int .i64 width) := fun w h => by have := h.drop.cell i hi 0; simpa using this
  have hcn : ∀ w, Ent (m ++ l) w → w.cell? ⟨bn, 0, none⟩ = some (.int .u64 n) := fun w h => by have := h.drop.cell j hj 0; simpa using this
  have c1 := hcw w hE
  go_enter Try.func76, Try.ntmps76
  go_wp2
  clear c1
  go_loopw [3, 4] (fun sv i wr => PutRel width n (m ++ l) sv i wr) (fun _ i _ => (intOf i + 1).toNat)
  case atStart => exact ⟨[], width, none, 0, rfl, by simpa using hw, rfl, rfl, hE.nil _ _⟩
  case round =>
    obtain ⟨dn, k, ao, c, rfl, hk, hdn, rfl, hEr⟩ := hrel
    have c2 := hcn _ hEr.tail
    clear hcw hcn hi hj
    have Hdn := SL.hid hdn
    clear hdn
    rcases k with _ | k
    · go_wp2
      go_ret
      have hd := Hdn.out
      simp only [be, List.append_nil] at hd
      subst hd
      exact ⟨_, rfl, hEr.tail, reads_row hEr 0 rfl⟩
    · have hby : bvals [UInt8.ofNat (n / 256 ^ k)] = [.int .u8 ((n : Int) / 2 ^ (8 * k) % 256)] := be_val n k
      go_wp2_with (at_builtin; refine wpl_appendB (hEr.alloc _) 1 rfl rfl rfl rfl rfl (ys := [UInt8.ofNat (n / 256 ^ k)]) (reads_pt (hEr.alloc _) 0 rfl (by rw [hby]; simp)) (by simp; omega) ?_; intro ao' c' w1 hE1)
      go_roundw
      case rel => exact ⟨dn ++ [UInt8.ofNat (n / 256 ^ k)], k, ao', c', by simp, by simp; omega, by rw [← Hdn.out]; simp [be], rfl, hE1.tail⟩
      case measure => simp [intOf]
