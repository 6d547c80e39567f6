/-
  Proved here, with no condition but the lengths that are named: the common writer of the packer: a packer of nil, a thing that does not fit, a thing that fits.
-/
import Derived.Test.YtohdljcpaogokaaPk2
import Derived.Deep.RegionLaw
import Derived.Deep.DrawnRows
namespace Go.Proofs.Ytohdljcpaogokaa
open Go.RowKit Go.SL

def orLimit (err : Int) : Int := if err = 0 then 6 else err

theorem puts_nil (k : FuncId) (caps : Array Value) (may : Bool) (w : World) :
    Calls Try.prog 74 #[.pointer none, .bool may, .func (.func k) #[] caps] w (fun e w' => e = .returned (.pointer none) ∧ w = w') := by
  go_enter Try.func74, Try.ntmps74
  go_wp2
  go_ret
  exact ⟨rfl, rfl⟩

set_option maxRecDepth 100000 in
set_option maxHeartbeats 400000 in
theorem puts_not (k : FuncId) (caps : Array Value) {l : List HProp} {w : World} {p : Nat} {bs : List UInt8} {err : Int} (hE : Ent (packer p bs err :: l) w) :
    Calls Try.prog 74 #[.pointer (some ⟨p, 0, none⟩), .bool false, .func (.func k) #[] caps] w (Ret fun v w' => v = .pointer (some ⟨p, 0, none⟩) ∧ Ent (packer p bs (orLimit err) :: l) w') := by
  obtain ⟨ao, c, hE⟩ := packer_open hE
  go_enter Try.func74, Try.ntmps74
  by_cases he : (err == 0) = true
  · go_wp2_with (first | ((with_reducible (show Go.wpList _ _ _ (Go.Oper.mk _ (.load _ _) _ _ _ _ :: _) _ _)); first | (refine wpl_load1 hE 0 rfl rfl rfl rfl (by simp [go_sem]) rfl ?_) | (refine wpl_load1 hE 1 rfl rfl rfl rfl (by simp [go_sem]) rfl ?_) | (refine wpl_load1 hE 2 rfl rfl rfl rfl (by simp [go_sem]) rfl ?_) | (refine wpl_load1 hE 3 rfl rfl rfl rfl (by simp [go_sem]) rfl ?_) | (refine wpl_load1 hE 4 rfl rfl rfl rfl (by simp [go_sem]) rfl ?_) | (refine wpl_load1 hE 5 rfl rfl rfl rfl (by simp [go_sem]) rfl ?_)) | ((with_reducible (show Go.wpList _ _ _ (Go.Oper.mk _ (.store _ _ _) _ _ _ _ :: _) _ _)); first | (refine wpl_store hE 0 rfl rfl rfl rfl rfl (by simp [go_sem]; rfl) (by rfl) (by simp [Value.cells, Value.oneCell', Act.eval]) (by simp) ?_; clear hE; intro w hE; simp only [Act.eval, getD_lit, List.getD_cons_succ, List.getD_cons_zero, Value.cells, List.set_cons_zero, List.set_cons_succ, List.take_succ_cons, List.take_zero, List.nil_append, List.cons_append, List.drop_succ_cons, List.drop_zero, List.length_cons, List.length_nil, Nat.reduceAdd, Nat.zero_add] at hE) | (refine wpl_store hE 1 rfl rfl rfl rfl rfl (by simp [go_sem]; rfl) (by rfl) (by simp [Value.cells, Value.oneCell', Act.eval]) (by simp) ?_; clear hE; intro w hE; simp only [Act.eval, getD_lit, List.getD_cons_succ, List.getD_cons_zero, Value.cells, List.set_cons_zero, List.set_cons_succ, List.take_succ_cons, List.take_zero, List.nil_append, List.cons_append, List.drop_succ_cons, List.drop_zero, List.length_cons, List.length_nil, Nat.reduceAdd, Nat.zero_add] at hE) | (refine wpl_store hE 2 rfl rfl rfl rfl rfl (by simp [go_sem]; rfl) (by rfl) (by simp [Value.cells, Value.oneCell', Act.eval]) (by simp) ?_; clear hE; intro w hE; simp only [Act.eval, getD_lit, List.getD_cons_succ, List.getD_cons_zero, Value.cells, List.set_cons_zero, List.set_cons_succ, List.take_succ_cons, List.take_zero, List.nil_append, List.cons_append, List.drop_succ_cons, List.drop_zero, List.length_cons, List.length_nil, Nat.reduceAdd, Nat.zero_add] at hE) | (refine wpl_store hE 3 rfl rfl rfl rfl rfl (by simp [go_sem]; rfl) (by rfl) (by simp [Value.cells, Value.oneCell', Act.eval]) (by simp) ?_; clear hE; intro w hE; simp only [Act.eval, getD_lit, List.getD_cons_succ, List.getD_cons_zero, Value.cells, List.set_cons_zero, List.set_cons_succ, List.take_succ_cons, List.take_zero, List.nil_append, List.cons_append, List.drop_succ_cons, List.drop_zero, List.length_cons, List.length_nil, Nat.reduceAdd, Nat.zero_add] at hE) | (refine wpl_store hE 4 rfl rfl rfl rfl rfl (by simp [go_sem]; rfl) (by rfl) (by simp [Value.cells, Value.oneCell', Act.eval]) (by simp) ?_; clear hE; intro w hE; simp only [Act.eval, getD_lit, List.getD_cons_succ, List.getD_cons_zero, Value.cells, List.set_cons_zero, List.set_cons_succ, List.take_succ_cons, List.take_zero, List.nil_append, List.cons_append, List.drop_succ_cons, List.drop_zero, List.length_cons, List.length_nil, Nat.reduceAdd, Nat.zero_add] at hE) | (refine wpl_store hE 5 rfl rfl rfl rfl rfl (by simp [go_sem]; rfl) (by rfl) (by simp [Value.cells, Value.oneCell', Act.eval]) (by simp) ?_; clear hE; intro w hE; simp only [Act.eval, getD_lit, List.getD_cons_succ, List.getD_cons_zero, Value.cells, List.set_cons_zero, List.set_cons_succ, List.take_succ_cons, List.take_zero, List.nil_append, List.cons_append, List.drop_succ_cons, List.drop_zero, List.length_cons, List.length_nil, Nat.reduceAdd, Nat.zero_add] at hE)))
    go_ret
    refine ⟨_, rfl, rfl, ?_⟩
    simpa [orLimit, show err = 0 by simpa using he] using packer_close hE
  · have he' : (err == 0) = false := by simpa using he
    go_wp2_with (first | ((with_reducible (show Go.wpList _ _ _ (Go.Oper.mk _ (.load _ _) _ _ _ _ :: _) _ _)); first | (refine wpl_load1 hE 0 rfl rfl rfl rfl (by simp [go_sem]) rfl ?_) | (refine wpl_load1 hE 1 rfl rfl rfl rfl (by simp [go_sem]) rfl ?_) | (refine wpl_load1 hE 2 rfl rfl rfl rfl (by simp [go_sem]) rfl ?_) | (refine wpl_load1 hE 3 rfl rfl rfl rfl (by simp [go_sem]) rfl ?_) | (refine wpl_load1 hE 4 rfl rfl rfl rfl (by simp [go_sem]) rfl ?_) | (refine wpl_load1 hE 5 rfl rfl rfl rfl (by simp [go_sem]) rfl ?_)) | ((with_reducible (show Go.wpList _ _ _ (Go.Oper.mk _ (.store _ _ _) _ _ _ _ :: _) _ _)); first | (refine wpl_store hE 0 rfl rfl rfl rfl rfl (by simp [go_sem]; rfl) (by rfl) (by simp [Value.cells, Value.oneCell', Act.eval]) (by simp) ?_; clear hE; intro w hE; simp only [Act.eval, getD_lit, List.getD_cons_succ, List.getD_cons_zero, Value.cells, List.set_cons_zero, List.set_cons_succ, List.take_succ_cons, List.take_zero, List.nil_append, List.cons_append, List.drop_succ_cons, List.drop_zero, List.length_cons, List.length_nil, Nat.reduceAdd, Nat.zero_add] at hE) | (refine wpl_store hE 1 rfl rfl rfl rfl rfl (by simp [go_sem]; rfl) (by rfl) (by simp [Value.cells, Value.oneCell', Act.eval]) (by simp) ?_; clear hE; intro w hE; simp only [Act.eval, getD_lit, List.getD_cons_succ, List.getD_cons_zero, Value.cells, List.set_cons_zero, List.set_cons_succ, List.take_succ_cons, List.take_zero, List.nil_append, List.cons_append, List.drop_succ_cons, List.drop_zero, List.length_cons, List.length_nil, Nat.reduceAdd, Nat.zero_add] at hE) | (refine wpl_store hE 2 rfl rfl rfl rfl rfl (by simp [go_sem]; rfl) (by rfl) (by simp [Value.cells, Value.oneCell', Act.eval]) (by simp) ?_; clear hE; intro w hE; simp only [Act.eval, getD_lit, List.getD_cons_succ, List.getD_cons_zero, Value.cells, List.set_cons_zero, List.set_cons_succ, List.take_succ_cons, List.take_zero, List.nil_append, List.cons_append, List.drop_succ_cons, List.drop_zero, List.length_cons, List.length_nil, Nat.reduceAdd, Nat.zero_add] at hE) | (refine wpl_store hE 3 rfl rfl rfl rfl rfl (by simp [go_sem]; rfl) (by rfl) (by simp [Value.cells, Value.oneCell', Act.eval]) (by simp) ?_; clear hE; intro w hE; simp only [Act.eval, getD_lit, List.getD_cons_succ, List.getD_cons_zero, Value.cells, List.set_cons_zero, List.set_cons_succ, List.take_succ_cons, List.take_zero, List.nil_append, List.cons_append, List.drop_succ_cons, List.drop_zero, List.length_cons, List.length_nil, Nat.reduceAdd, Nat.zero_add] at hE) | (refine wpl_store hE 4 rfl rfl rfl rfl rfl (by simp [go_sem]; rfl) (by rfl) (by simp [Value.cells, Value.oneCell', Act.eval]) (by simp) ?_; clear hE; intro w hE; simp only [Act.eval, getD_lit, List.getD_cons_succ, List.getD_cons_zero, Value.cells, List.set_cons_zero, List.set_cons_succ, List.take_succ_cons, List.take_zero, List.nil_append, List.cons_append, List.drop_succ_cons, List.drop_zero, List.length_cons, List.length_nil, Nat.reduceAdd, Nat.zero_add] at hE) | (refine wpl_store hE 5 rfl rfl rfl rfl rfl (by simp [go_sem]; rfl) (by rfl) (by simp [Value.cells, Value.oneCell', Act.eval]) (by simp) ?_; clear hE; intro w hE; simp only [Act.eval, getD_lit, List.getD_cons_succ, List.getD_cons_zero, Value.cells, List.set_cons_zero, List.set_cons_succ, List.take_succ_cons, List.take_zero, List.nil_append, List.cons_append, List.drop_succ_cons, List.drop_zero, List.length_cons, List.length_nil, Nat.reduceAdd, Nat.zero_add] at hE)))
    go_ret
    refine ⟨_, rfl, rfl, ?_⟩
    simpa [orLimit, show err ≠ 0 by simpa using he'] using packer_close hE
attribute [local go_sem ↓] Go.wp_at_zero Go.wp_at_succ

set_option maxRecDepth 100000 in
set_option maxHeartbeats 400000 in
theorem puts_may {k : FuncId} {caps : Array Value} {ys : List UInt8} {l : List HProp} {w : World} {p : Nat} {bs : List UInt8} {err : Int} (hk : ∀ (args : Array Value) (w : World), (callFunc k args).run Try.prog w = .ok (.enter k args) w) (hmk : Makes k caps l ys) (hE : Ent (packer p bs err :: l) w) (hb : bs.length + ys.length ≤ 1099511627776) :
    Calls Try.prog 74 #[.pointer (some ⟨p, 0, none⟩), .bool true, .func (.func k) #[] caps] w (Ret fun v w' => v = .pointer (some ⟨p, 0, none⟩) ∧ Ent (packer p (bs ++ ys) err :: l) w') := by
  obtain ⟨ao, c, hE⟩ := packer_open hE
  have c0 := hE.cell 0 rfl 0
  have c1 := hE.cell 0 rfl 1
  simp only [List.getElem?_toArray, List.getElem?_cons_zero, List.getElem?_cons_succ] at c0 c1
  go_enter Try.func74, Try.ntmps74
  go_wp2_with (fail)
  have hmk' := hmk [pt p (.cells #[.slice ao bs.length c, .int .i64 err] 128), rowB ao c bs]
  have f0 := hE.frozen 0 rfl 0
  go_region_law (first | ((refine step_appendB hE1 1 rfl (by rfl) (by rfl) (by rfl) (by rfl) hr1 hb ?_); (intro ao2 c2 w2 hE2; have d0 : w2.cell? ⟨p, 0, none⟩ = some (.slice ao bs.length c) := hE2.cell 0 rfl 0; have d1 : w2.frozen? ⟨p, 0, none⟩ = false := hE2.frozen 0 rfl 0)) | (go_simp; (refine (hmk' _ ?_).mono ?_); (exact hE.drew); (rintro e w1 ⟨v1, rfl, hE1, hr1⟩); have d0 : w1.cell? ⟨p, 0, none⟩ = some (.slice ao bs.length c) := hE1.cell 0 rfl 0))
  all_goals
    go_wp2
    go_ret
    refine ⟨_, rfl, rfl, packer_close (ao := ao2) (c := c2) ?_⟩
    have h3 := hE2.setCell 0 rfl 0 (.slice ao2 (bs.length + ys.length) c2)
    simp only [List.length_append]
    exact h3

def pbs (may : Bool) (bs ys : List UInt8) : List UInt8 := if may then bs ++ ys else bs
def perr (may : Bool) (err : Int) : Int := if may then err else orLimit err

theorem puts_any {k : FuncId} {caps : Array Value} {ys : List UInt8} {l : List HProp} {w : World} {p : Nat} {bs : List UInt8} {err : Int} (may : Bool) (hk : ∀ (args : Array Value) (w : World), (callFunc k args).run Try.prog w = .ok (.enter k args) w) (hmk : may = true → Makes k caps l ys) (hE : Ent (packer p bs err :: l) w) (hb : bs.length + ys.length ≤ 1099511627776) :
    Calls Try.prog 74 #[.pointer (some ⟨p, 0, none⟩), .bool may, .func (.func k) #[] caps] w (Ret fun v w' => v = .pointer (some ⟨p, 0, none⟩) ∧ Ent (packer p (pbs may bs ys) (perr may err) :: l) w') := by
  cases may with
  | true => exact puts_may hk (hmk rfl) hE hb
  | false => exact puts_not k caps hE

