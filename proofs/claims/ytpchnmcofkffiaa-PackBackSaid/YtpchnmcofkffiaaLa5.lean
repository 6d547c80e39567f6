/-
  The hash that a thing's text begins: the text's first bytes, filled up with zeros to 32.
-/
import Derived.Test.YtpchnmcofkffiaaLa4
import Derived.Test.YtpchnmcofkffiaaSld
namespace Go.Proofs.Ytpchnmcofkffiaa
open Go.RowKit Go.SL

def hash32 (ys : List UInt8) : List UInt8 := ys.take 32 ++ List.replicate (32 - ys.length) 0
theorem hash32_length (ys : List UInt8) : (hash32 ys).length = 32 := by simp [hash32]; omega

theorem size1B : (Try.prog.info? 5).map (·.size) = some 1 := by kernel_rfl

theorem hash_cells (ys : List UInt8) : (ys.take 32).map (fun b => Value.int .u8 (b.toNat : Int)) ++ (List.replicate 32 (Value.int .u8 0)).drop (min ys.length 32) = bvals (hash32 ys) := by
  unfold bvals hash32
  rw [List.map_append, List.drop_replicate, List.map_replicate]
  congr 1
  congr 1
  omega

set_option maxRecDepth 100000 in
theorem Thing_hash (x : Thing) {l : List HProp} {w : World} (hE : Ent l w) :
    Calls Try.prog 14 #[.agg x.cells.toArray] w (Ret fun v w' => v = .agg (bvals (hash32 x.text)).toArray ∧ Ent l w') := by
  unfold Thing.cells
  go_enter Try.func14, Try.ntmps14
  go_wp2_with (first | (refine wpl_box hE rfl rfl rfl ?_; clear hE; intro b w hE; simp only [Act.eval, Act.put, List.setIfInBounds_toArray, List.set_cons_zero, List.set_cons_succ, getD_lit, List.getD_cons_succ, List.getD_cons_zero, Value.cells] at hE) | (refine wpl_alloc hE rfl rfl (by simp [go_sem]; rfl) ?_; clear hE; intro b w hE; simp only [Act.eval, Act.put, List.setIfInBounds_toArray, List.set_cons_zero, List.set_cons_succ, getD_lit, List.getD_cons_succ, List.getD_cons_zero, Value.cells] at hE))
  have c3 := hE.cell 2 rfl 3
  simp only [List.getElem?_toArray, List.getElem?_cons_zero, List.getElem?_cons_succ] at c3
  go_region_law (first | ((refine step_copyS hE.drew 0 rfl (by rfl) (by rfl) (by rfl) (by rfl) Try.underlying33 size1B (by decide) ?_); (intro w2 hE2)))
  all_goals
    have he := hash_cells x.text
    simp only [List.replicate] at he
    simp only [List.set_cons_zero, he] at hE2
    clear he
    clear hE c3
    have H32 := SL.hid (show (bvals (hash32 x.text)).length = 32 by rw [bvals_length, hash32_length])
    go_wp2_with (first | (refine wpl_loadW hE2 0 rfl rfl rfl rfl Try.isAgg31 Try.sizeOf31 H32.out ?_) | (refine wpl_storeW hE2 1 rfl rfl rfl rfl rfl Try.sizeOf31 H32.out (bvals_one _) rfl ?_; clear hE2; intro w hE))
    refine bodyPost_ret (v := .agg (bvals (hash32 x.text)).toArray) (results_cellA rfl hE 1 rfl rfl Try.isAgg31 Try.sizeOf31 H32.out) rfl ?_
    exact ⟨_, rfl, rfl, hE.tail.tail.tail⟩
end Go.Proofs.Ytpchnmcofkffiaa
