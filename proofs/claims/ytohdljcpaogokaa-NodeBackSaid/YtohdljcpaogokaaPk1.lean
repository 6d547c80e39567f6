/-
  Proved here, with no condition but the lengths that are named: the packer's own bytes as a separation assertion; a new packer; the append of bytes.
-/
import Derived.Test.YtohdljcpaogokaaBt
namespace Go.Proofs.Ytohdljcpaogokaa
open Go.RowKit Go.SL

def packer (p : Nat) (bs : List UInt8) (err : Int) : HProp := ex fun x : Option Addr × Nat => [pt p (.cells #[.slice x.1 bs.length x.2, .int .i64 err] 128), rowB x.1 x.2 bs]

theorem packer_open {l : List HProp} {w : World} {p : Nat} {bs : List UInt8} {err : Int} (hE : Ent (packer p bs err :: l) w) :
    ∃ ao c, Ent (pt p (.cells #[.slice ao bs.length c, .int .i64 err] 128) :: rowB ao c bs :: l) w := let ⟨x, h⟩ := Ent.unpack hE; ⟨x.1, x.2, h⟩
theorem packer_close {l : List HProp} {w : World} {p : Nat} {bs : List UInt8} {err : Int} {ao : Option Addr} {c : Nat}
    (hE : Ent (pt p (.cells #[.slice ao bs.length c, .int .i64 err] 128) :: rowB ao c bs :: l) w) : Ent (packer p bs err :: l) w := Ent.pack (ao, c) hE
theorem packer_new {l : List HProp} {w : World} {p : Nat} (hE : Ent (pt p (.cells #[.slice none 0 0, .int .i64 0] 128) :: l) w) : Ent (packer p [] 0 :: l) w :=
  packer_close ((hE.nil _ _).perm (.swap _ _ _))


set_option maxHeartbeats 400000 in
theorem New_any {l : List HProp} {w : World} (hE : Ent l w) :
    Calls Try.prog 41 #[] w (Ret fun v w' => ∃ p, v = .pointer (some ⟨p, 0, none⟩) ∧ Ent (packer p [] 0 :: l) w') := by
  go_enter Try.func41, Try.ntmps41
  go_wp2_with (first | ((with_reducible (show Go.wpList _ _ _ (Go.Oper.mk _ (.load _ _) _ _ _ _ :: _) _ _)); first | (refine wpl_load1 hE 0 rfl rfl rfl rfl (by simp [go_sem]) rfl ?_) | (refine wpl_load1 hE 1 rfl rfl rfl rfl (by simp [go_sem]) rfl ?_) | (refine wpl_load1 hE 2 rfl rfl rfl rfl (by simp [go_sem]) rfl ?_) | (refine wpl_load1 hE 3 rfl rfl rfl rfl (by simp [go_sem]) rfl ?_) | (refine wpl_load1 hE 4 rfl rfl rfl rfl (by simp [go_sem]) rfl ?_) | (refine wpl_load1 hE 5 rfl rfl rfl rfl (by simp [go_sem]) rfl ?_)) | ((with_reducible (show Go.wpList _ _ _ (Go.Oper.mk _ (.box _ _) _ _ _ _ :: _) _ _)); refine wpl_box hE rfl rfl rfl ?_; clear hE; intro b w hE; simp only [Act.eval, Act.put, List.setIfInBounds_toArray, List.set_cons_zero, List.set_cons_succ, getD_lit, List.getD_cons_succ, List.getD_cons_zero, Value.cells] at hE))
  go_ret
  refine ⟨_, rfl, _, rfl, ?_⟩
  exact packer_new hE
