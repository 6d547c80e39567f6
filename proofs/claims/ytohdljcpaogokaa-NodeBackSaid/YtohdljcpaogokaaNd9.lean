/-
  Nodes that are known. Printed by gen_nd9.py.
-/
import Derived.Test.YtohdljcpaogokaaNd8
import Derived.Test.YtohdljcpaogokaaFr
namespace Go.Proofs.Ytohdljcpaogokaa
open Go.RowKit Go.SL

theorem reads_rowM {e : TypeId} {size : Nat} {v : Value} {n : Nat} {xs : List Value} {l : List HProp} {w : World} (hE : Ent l w) (hm : row e size v n xs ∈ l) : reads v n xs w := by
  obtain ⟨i, hi⟩ := List.getElem?_of_mem hm
  exact reads_row hE i hi
theorem reads_ptM {b : Nat} {cs : Array Value} {T : TypeId} {fz : Nat × Nat} {l : List HProp} {w : World} (hE : Ent l w) (hm : pt b (.cells cs T fz) ∈ l) {n c : Nat} {xs : List Value} (h : cs = xs.toArray) : reads (.slice (some ⟨b, 0, none⟩) n c) n xs w := by
  obtain ⟨i, hi⟩ := List.getElem?_of_mem hm
  exact reads_pt hE i hi (off := 0) (fun j u hu => by rw [Nat.zero_add, h, List.getElem?_toArray]; exact hu)
theorem run_two (s t : List UInt8) (w : World) : (Instr.buildSlice 63 2 #[(0, strv s), (1, strv t)]).run Try.prog w = .ok (.slice (some ⟨w.heap.size, 0, none⟩) 2 2) (w.alloc (.cells #[strv s, strv t] 9)) := by
  simp [strv, go_sem]
/-- a slice of two texts that are written out -/
theorem wpl_two {ops : Array Oper} {rest : List Oper} {o : Oper} {a : Act} {Q : Exit → Act → World → Prop} {w : World} {l : List HProp} (hE : Ent l w) {x y : Operand} (ho : o.op = .buildSlice 63 2 #[(0, x), (1, y)]) (hw : Region.wanted o (yielded ops a.tmps) = true) {s t : List UInt8} (hx : a.eval x = strv s) (hy : a.eval y = strv t)
    (h : ∀ b w', Ent (pt b (.cells #[strv s, strv t] 9) :: l) w' → wpList Try.prog ops Q rest (a.put o.dst (.slice (some ⟨b, 0, none⟩) 2 2)) w') : wpList Try.prog ops Q (o :: rest) a w := by
  refine wpl_run hw (w' := w.alloc (.cells #[strv s, strv t] 9)) (v := .slice (some ⟨w.heap.size, 0, none⟩) 2 2) ?_ (h _ _ (hE.alloc _))
  have e : (#[((0 : Nat), x), (1, y)].map fun (p : Nat × Operand) => (p.1, a.eval p.2)) = #[(0, strv s), (1, strv t)] := by simp [hx, hy]
  have hr := run_two s t w
  simp only [execOp, ho, Sem.run_bind]
  rw [show (#[((0 : Nat), x), (1, y)].map fun (p : Nat × Operand) => match p with | (i, x) => (i, a.eval x)) = #[(0, strv s), (1, strv t)] from e, hr]
  simp

theorem page_cut {l : List HProp} {w : World} {pa : Option Addr} {pc : Nat} {pg : List UInt8} (hE : Ent l w) (i : Nat) (hi : l[i]? = some (rowB pa pc pg)) (h10 : 10 ≤ pg.length) :
    10 ≤ pc ∧ reads (.slice (cutAt 1 pa pc 0) (10 - 0) (pc - 0)) (10 - 0) ((pg.take 10).map fun b => Value.int .u8 b.toNat) w := by
  obtain ⟨_, _, h3, _⟩ := hE.rowIs i hi (by omega)
  refine ⟨by omega, ?_⟩
  have h := reads_cut (size := 1) (reads_row hE i hi) (by simp [bvals_length]) (Nat.zero_le 10) h10 h3
  have e : ((bvals pg).drop (0 * 1)).take ((10 - 0) * 1) = (pg.take 10).map fun b => Value.int .u8 b.toNat := by
    rw [Nat.zero_mul, List.drop_zero, bvals, ← List.map_take]
    rfl
  rw [e] at h
  exact h
def kA : List (List UInt8) := [[98], [100]]
def vA : List (List UInt8) := [[120, 120], [121, 121]]
def nA : Nd := ⟨true, kA, vA, []⟩
def kB : List (List UInt8) := [[98], [98]]
def nB : Nd := ⟨true, kB, vA, []⟩
theorem mayA : mayN 1 2 nA = true := by decide
theorem mayNotB : mayN 1 2 nB = false := by decide
theorem bodyA : bodyU nA = [1, 0, 0, 2, 98, 120, 120, 100, 121, 121] := by decide
theorem pageA10 : (pageU nA).take 10 = [1, 0, 0, 2, 98, 120, 120, 100, 121, 121] := by
  rw [pageU, bodyA]; rfl
theorem riseA : Rising kA := by
  intro i hi
  have : i = 0 := by simp [kA] at hi; omega
  subst this
  rfl
theorem placeA1 : placeOf kA [99] = 1 ∧ isIn kA [99] = false := by decide
theorem placeA2 : downOf kA [100] = 2 := by decide
theorem capA : capN 32 4 = 14 := by decide
theorem fanA : fanN 32 4 = 15 := by decide

set_option maxRecDepth 100000 in
set_option maxHeartbeats 8000000 in
theorem wakes09_any {l : List HProp} {w : World} (hE : Ent l w) :
    Calls Try.prog 26 #[] w (Ret fun v w' => v = .bool true ∧ Ent l w') := by
  obtain ⟨pg, hpg⟩ : ∃ pg, pg = pageU nA := ⟨_, rfl⟩
  have hlen : pg.length = 512 := by rw [hpg]; exact page_len mayA
  have Hten := SL.hid (show pg.take 10 = [1, 0, 0, 2, 98, 120, 120, 100, 121, 121] by rw [hpg]; exact pageA10)
  have hP1 : ∀ {l : List HProp} {w : World} {ka va : Option Addr}, Ent l w → Knows l (reads (.slice ka 2 2) 2 (kA.map strv)) → Knows l (reads (.slice va 2 2) 2 (vA.map strv)) →
      Calls Try.prog 33 #[.agg #[.int .i64 1, .int .i64 2], .agg #[.bool true, .slice ka 2 2, .slice va 2 2, .slice none 0 0]] w (Ret fun v w' => ∃ ao c, v = .tuple #[.slice ao pg.length c, .int .i64 0] ∧ Ent (rowB ao c pg :: l) w') := fun h h1 h2 => by
    have H := Put_node (kw := 1) (vw := 2) (leaf := true) (keys := kA) (vals := vA) (kids := []) (ia := none) (ic := 0) (by decide) (by decide) (by decide) h h1 h2 (fun _ _ => reads_nil 0 0 rfl _)
    have e1 : putU 1 2 ⟨true, kA, vA, []⟩ = pg := by rw [putU, show mayN 1 2 ⟨true, kA, vA, []⟩ = true from mayA, hpg]; rfl
    have e2 : putE 1 2 ⟨true, kA, vA, []⟩ = 0 := by rw [putE, show mayN 1 2 ⟨true, kA, vA, []⟩ = true from mayA]; rfl
    rw [e1, e2] at H
    exact H
  have hP2 : ∀ {l : List HProp} {w : World} {ka va : Option Addr}, Ent l w → Knows l (reads (.slice ka 2 2) 2 (kB.map strv)) → Knows l (reads (.slice va 2 2) 2 (vA.map strv)) →
      Calls Try.prog 33 #[.agg #[.int .i64 1, .int .i64 2], .agg #[.bool true, .slice ka 2 2, .slice va 2 2, .slice none 0 0]] w (Ret fun v w' => ∃ ao c, v = .tuple #[.slice ao ([] : List UInt8).length c, .int .i64 2] ∧ Ent (rowB ao c [] :: l) w') := fun h h1 h2 => by
    have H := Put_node (kw := 1) (vw := 2) (leaf := true) (keys := kB) (vals := vA) (kids := []) (ia := none) (ic := 0) (by decide) (by decide) (by decide) h h1 h2 (fun _ _ => reads_nil 0 0 rfl _)
    have e1 : putU 1 2 ⟨true, kB, vA, []⟩ = [] := by rw [putU, show mayN 1 2 ⟨true, kB, vA, []⟩ = false from mayNotB]; rfl
    have e2 : putE 1 2 ⟨true, kB, vA, []⟩ = 2 := by rw [putE, show mayN 1 2 ⟨true, kB, vA, []⟩ = false from mayNotB]; rfl
    rw [e1, e2] at H
    exact H
  have hT : ∀ {l : List HProp} {w : World} {ab : Option Addr} {cb : Nat}, Ent l w → Knows l (reads (.slice ab pg.length cb) pg.length (bvals pg)) →
      Calls Try.prog 39 #[.agg #[.int .i64 1, .int .i64 2], .slice ab pg.length cb] w (Ret fun v w' => ∃ ka kc va vc ia ic, v = .tuple #[.agg #[.bool true, .slice ka 2 kc, .slice va 2 vc, .slice ia 0 ic], .int .i64 0] ∧ Ent (rowS ka kc kA :: rowS va vc vA :: rowI ia ic [] :: l) w') := fun h hk => by
    have H := Take_node (kw := 1) (vw := 2) (by omega) h hk
    refine H.mono ?_
    rintro e w' ⟨v, rfl, ka, kc, va, vc, ia, ic, rfl, hE'⟩
    have hp := put_take mayA
    rw [← hpg] at hp
    rw [hp.1] at hE'
    rw [hp.1, hp.2]
    exact ⟨_, rfl, ka, kc, va, vc, ia, ic, rfl, hE'⟩
  have hF : ∀ {l : List HProp} {w : World} {ka : Option Addr} {v2 v3 : Value}, Ent l w → Knows l (reads (.slice ka 2 2) 2 (kA.map strv)) → Calls Try.prog 36 #[.agg #[.bool true, .slice ka 2 2, v2, v3], .string ⟨#[99]⟩] w (Ret fun v w' => v = .tuple #[.int .i64 1, .bool false] ∧ Ent l w') := by
    intro l w ka v2 v3 h hk
    have H := Find_any (leaf := true) (v2 := v2) (v3 := v3) (by decide) riseA [99] h hk
    rw [placeA1.1, placeA1.2] at H
    exact H
  have hD : ∀ {l : List HProp} {w : World} {ka : Option Addr} {v2 v3 : Value}, Ent l w → Knows l (reads (.slice ka 2 2) 2 (kA.map strv)) → Calls Try.prog 38 #[.agg #[.bool true, .slice ka 2 2, v2, v3], .string ⟨#[100]⟩] w (Ret fun v w' => v = .int .i64 2 ∧ Ent l w') := by
    intro l w ka v2 v3 h hk
    have H := Down_any (leaf := true) (v2 := v2) (v3 := v3) (by decide) riseA [100] h hk
    rw [placeA2] at H
    exact H
  have hC : ∀ {l : List HProp} {w : World}, Ent l w → Calls Try.prog 29 #[.agg #[.int .i64 32, .int .i64 4]] w (Ret fun v w' => v = .int .i64 14 ∧ Ent l w') := fun h => by
    have H := Cap_shape (kw := 32) (vw := 4) h
    rw [capA] at H
    exact H
  have hN : ∀ {l : List HProp} {w : World}, Ent l w → Calls Try.prog 31 #[.agg #[.int .i64 32, .int .i64 4]] w (Ret fun v w' => v = .int .i64 15 ∧ Ent l w') := fun h => by
    have H := Fan_shape (kw := 32) (vw := 4) h
    rw [fanA] at H
    exact H
  have hS : ∀ {l : List HProp} {w : World} {ka va ia k2 v2 i2 : Option Addr} {kc vc ic kd vd id : Nat}, Ent l w → Knows l (reads (.slice ka 2 kc) 2 (kA.map strv)) → Knows l (reads (.slice va 2 vc) 2 (vA.map strv)) → Knows l (reads (.slice ia 0 ic) 0 []) → Knows l (reads (.slice k2 2 kd) 2 (kA.map strv)) → Knows l (reads (.slice v2 2 vd) 2 (vA.map strv)) → Knows l (reads (.slice i2 0 id) 0 []) →
      Calls Try.prog 40 #[.agg #[.bool true, .slice ka 2 kc, .slice va 2 vc, .slice ia 0 ic], .agg #[.bool true, .slice k2 2 kd, .slice v2 2 vd, .slice i2 0 id]] w (Ret fun v w' => v = .bool true ∧ Ent l w') := fun h h1 h2 h3 h4 h5 h6 =>
    Same_node (leaf := true) (keys := kA) (vals := vA) (kids := []) (by decide) (by decide) (by decide) h h1 h2 h3 h4 h5 h6
  have hpl : ((pg.length : Int) == 512) = true := by rw [hlen]; rfl
  have h10 : (10 : Nat) ≤ pg.length := by omega
  clear hpg hlen
  go_enter Try.func26, Try.ntmps26
  go_wp2_with (first
    | go_skip
    | ((with_reducible (show Go.wpList _ _ _ (Go.Oper.mk _ (.alloc 68) _ _ _ _ :: _) _ _)); refine wpl_alloc hE rfl rfl (by simp [go_sem]; rfl) ?_; clear hE; intro b1 w hE1; simp only [Act.eval, Act.put, List.setIfInBounds_toArray, List.set_cons_zero, List.set_cons_succ, getD_lit, List.getD_cons_succ, List.getD_cons_zero, Value.cells] at hE1)
    | ((with_reducible (show Go.wpList _ _ _ (Go.Oper.mk _ (.store _ _ _) _ _ _ _ :: _) _ _)); refine wpl_storeW hE1 0 rfl rfl rfl (xs := [.int .i64 1, .int .i64 2]) rfl rfl Try.sizeOf68 rfl (by simp [Value.oneCell']) rfl ?_; clear hE1; intro w hE2; simp only [List.set_cons_zero, List.set_cons_succ] at hE2)
    | ((with_reducible (show Go.wpList _ _ _ (Go.Oper.mk _ (.buildSlice _ _ _) _ _ _ _ :: _) _ _)); refine wpl_two hE2 rfl rfl (s := [98]) (t := [100]) rfl rfl ?_; clear hE2; intro s1 w hE3)
    | ((with_reducible (show Go.wpList _ _ _ (Go.Oper.mk _ (.buildSlice _ _ _) _ _ _ _ :: _) _ _)); refine wpl_two hE3 rfl rfl (s := [120, 120]) (t := [121, 121]) rfl rfl ?_; clear hE3; intro s2 w hE4)
    | ((with_reducible (show Go.wpList _ _ _ (Go.Oper.mk _ (.alloc 70) _ _ _ _ :: _) _ _)); refine wpl_alloc hE4 rfl rfl (by simp [go_sem]; rfl) ?_; clear hE4; intro b2 w hE5; simp only [Act.eval, Act.put, List.setIfInBounds_toArray, List.set_cons_zero, List.set_cons_succ, getD_lit, List.getD_cons_succ, List.getD_cons_zero, Value.cells] at hE5)
    | ((with_reducible (show Go.wpList _ _ _ (Go.Oper.mk _ (.store _ _ _) _ _ _ _ :: _) _ _)); refine wpl_storeW hE5 0 rfl rfl rfl (xs := [.bool true, .slice (some ⟨s1, 0, none⟩) 2 2, .slice (some ⟨s2, 0, none⟩) 2 2, .slice none 0 0]) rfl rfl Try.sizeOf70 rfl (by simp [Value.oneCell']) rfl ?_; clear hE5; intro w hE6; simp only [List.set_cons_zero, List.set_cons_succ] at hE6)
    | ((with_reducible (show Go.wpList _ _ _ (Go.Oper.mk _ (.load 68 (.tmp 1)) _ _ _ _ :: _) _ _)); refine wpl_loadW hE6 3 rfl rfl rfl rfl Try.isAgg68 Try.sizeOf68 (xs := [.int .i64 1, .int .i64 2]) rfl ?_)
    | ((with_reducible (show Go.wpList _ _ _ (Go.Oper.mk _ (.load 70 (.tmp 2)) _ _ _ _ :: _) _ _)); refine wpl_loadW hE6 0 rfl rfl rfl rfl Try.isAgg70 Try.sizeOf70 (xs := [.bool true, .slice (some ⟨s1, 0, none⟩) 2 2, .slice (some ⟨s2, 0, none⟩) 2 2, .slice none 0 0]) rfl ?_)
    | (go_at_call 33; have H := hP1 hE6 (fun W h => reads_ptM h (by repeat (first | exact List.Mem.head _ | refine List.Mem.tail _ ?_)) rfl) (fun W h => reads_ptM h (by repeat (first | exact List.Mem.head _ | refine List.Mem.tail _ ?_)) rfl); refine H.mono ?_; clear H hE6; rintro e w7 ⟨v, rfl, pa, pc, rfl, hE7⟩)
    | ((with_reducible (show Go.wpList _ _ _ (Go.Oper.mk _ (.load 68 (.tmp 1)) _ _ _ _ :: _) _ _)); refine wpl_loadW hE7 4 rfl rfl rfl rfl Try.isAgg68 Try.sizeOf68 (xs := [.int .i64 1, .int .i64 2]) rfl ?_)
    | (go_at_call 39; have H := hT hE7 (fun W h => reads_rowM h (by repeat (first | exact List.Mem.head _ | refine List.Mem.tail _ ?_))); refine H.mono ?_; clear H hE7; rintro e w8 ⟨v, rfl, ka, kc, va, vc, ia, ic, rfl, hE8⟩)
    | ((with_reducible (show Go.wpList _ _ _ (Go.Oper.mk _ (.alloc 70) _ _ _ _ :: _) _ _)); refine wpl_alloc hE8 rfl rfl (by simp [go_sem]; rfl) ?_; clear hE8; intro b5 w hE9; simp only [Act.eval, Act.put, List.setIfInBounds_toArray, List.set_cons_zero, List.set_cons_succ, getD_lit, List.getD_cons_succ, List.getD_cons_zero, Value.cells] at hE9)
    | ((with_reducible (show Go.wpList _ _ _ (Go.Oper.mk _ (.store _ _ _) _ _ _ _ :: _) _ _)); refine wpl_storeW hE9 0 rfl rfl rfl (xs := [.bool true, .slice ka 2 kc, .slice va 2 vc, .slice ia 0 ic]) rfl rfl Try.sizeOf70 rfl (by simp [Value.oneCell']) rfl ?_; clear hE9; intro w hEa; simp only [List.set_cons_zero, List.set_cons_succ] at hEa)
    | ((with_reducible (show Go.wpList _ _ _ (Go.Oper.mk _ (.load 70 (.tmp 2)) _ _ _ _ :: _) _ _)); refine wpl_loadW hEa 5 rfl rfl rfl rfl Try.isAgg70 Try.sizeOf70 (xs := [.bool true, .slice (some ⟨s1, 0, none⟩) 2 2, .slice (some ⟨s2, 0, none⟩) 2 2, .slice none 0 0]) rfl ?_)
    | (go_at_call 36; refine (hF (ka := some ⟨s1, 0, none⟩) hEa (fun W h => reads_ptM h (by repeat (first | exact List.Mem.head _ | refine List.Mem.tail _ ?_)) rfl)).mono ?_; clear hEa; rintro e wb ⟨v, rfl, rfl, hEb⟩)
    | ((with_reducible (show Go.wpList _ _ _ (Go.Oper.mk _ (.load 68 (.tmp 1)) _ _ _ _ :: _) _ _)); refine wpl_loadW hEb 8 rfl rfl rfl rfl Try.isAgg68 Try.sizeOf68 (xs := [.int .i64 1, .int .i64 2]) rfl ?_)
    | ((with_reducible (show Go.wpList _ _ _ (Go.Oper.mk _ (.buildSlice _ _ _) _ _ _ _ :: _) _ _)); refine wpl_two hEb rfl rfl (s := [98]) (t := [98]) rfl rfl ?_; clear hEb; intro s3 w hEc)
    | ((with_reducible (show Go.wpList _ _ _ (Go.Oper.mk _ (.buildSlice _ _ _) _ _ _ _ :: _) _ _)); refine wpl_two hEc rfl rfl (s := [120, 120]) (t := [121, 121]) rfl rfl ?_; clear hEc; intro s4 w hEd)
    | (go_at_call 33; have H := hP2 hEd (fun W h => reads_ptM h (List.Mem.tail _ (List.Mem.head _)) rfl) (fun W h => reads_ptM h (List.Mem.head _) rfl); refine H.mono ?_; clear H hEd; rintro e we ⟨v, rfl, pa2, pc2, rfl, hEe⟩)
    | ((with_reducible (show Go.wpList _ _ _ (Go.Oper.mk _ (.alloc 68) _ _ _ _ :: _) _ _)); refine wpl_alloc hEe rfl rfl (by simp [go_sem]; rfl) ?_; clear hEe; intro b11 w hEf; simp only [Act.eval, Act.put, List.setIfInBounds_toArray, List.set_cons_zero, List.set_cons_succ, getD_lit, List.getD_cons_succ, List.getD_cons_zero, Value.cells] at hEf)
    | ((with_reducible (show Go.wpList _ _ _ (Go.Oper.mk _ (.store _ _ _) _ _ _ _ :: _) _ _)); refine wpl_storeW hEf 0 rfl rfl rfl (xs := [.int .i64 32, .int .i64 4]) rfl rfl Try.sizeOf68 rfl (by simp [Value.oneCell']) rfl ?_; clear hEf; intro w hEg; simp only [List.set_cons_zero, List.set_cons_succ] at hEg; obtain ⟨hcap, hR⟩ := page_cut hEg 8 rfl h10)
    | ((with_reducible (show Go.wpList _ _ _ (Go.Oper.mk _ (.slice _ _ none (some _) none) _ _ _ _ :: _) _ _)); refine wpl_cut_hi rfl rfl rfl rfl 10 rfl Try.underlying42 Try.sizeOf5 (by omega) ?_)
    | ((with_reducible (show Go.wpList _ _ _ (Go.Oper.mk _ (.convert _ _ _) _ _ _ _ :: _) _ _)); refine wpl_bytesStr (bs := pg.take 10) rfl rfl rfl Try.underlying42 Try.underlying5 Try.underlying9 hR (by rw [List.length_take]; omega) ?_; rw [Hten.out])
    | ((with_reducible (show Go.wpList _ _ _ (Go.Oper.mk _ (.load 70 (.tmp 5)) _ _ _ _ :: _) _ _)); refine wpl_loadW hEg 4 rfl rfl rfl rfl Try.isAgg70 Try.sizeOf70 (xs := [.bool true, .slice ka 2 kc, .slice va 2 vc, .slice ia 0 ic]) rfl ?_)
    | ((with_reducible (show Go.wpList _ _ _ (Go.Oper.mk _ (.load 70 (.tmp 2)) _ _ _ _ :: _) _ _)); refine wpl_loadW hEg 9 rfl rfl rfl rfl Try.isAgg70 Try.sizeOf70 (xs := [.bool true, .slice (some ⟨s1, 0, none⟩) 2 2, .slice (some ⟨s2, 0, none⟩) 2 2, .slice none 0 0]) rfl ?_)
    | ((with_reducible (show Go.wpList _ _ _ (Go.Oper.mk _ (.load 68 (.tmp 11)) _ _ _ _ :: _) _ _)); refine wpl_loadW hEg 0 rfl rfl rfl rfl Try.isAgg68 Try.sizeOf68 (xs := [.int .i64 32, .int .i64 4]) rfl ?_)
    | (go_at_call 40; have H := hS (ka := ka) (va := va) (ia := ia) (k2 := some ⟨s1, 0, none⟩) (v2 := some ⟨s2, 0, none⟩) (i2 := none) (id := 0) (kd := 2) (vd := 2) hEg (fun W h => reads_row h 5 rfl) (fun W h => reads_row h 6 rfl) (fun W h => reads_row h 7 rfl) (fun W h => reads_pt h 11 rfl (off := 0) (fun j u hu => by rw [Nat.zero_add, List.getElem?_toArray]; exact hu)) (fun W h => reads_pt h 10 rfl (off := 0) (fun j u hu => by rw [Nat.zero_add, List.getElem?_toArray]; exact hu)) (fun _ _ => reads_nil 0 0 rfl _); refine H.mono ?_; clear H hEg; rintro e wh ⟨v, rfl, rfl, hEg⟩)
    | (go_at_call 38; refine (hD (ka := some ⟨s1, 0, none⟩) hEg (fun W h => reads_pt h 11 rfl (off := 0) (fun j u hu => by rw [Nat.zero_add, List.getElem?_toArray]; exact hu))).mono ?_; clear hEg; rintro e wi ⟨v, rfl, rfl, hEg⟩)
    | (go_at_call 29; have H := hC hEg; refine H.mono ?_; clear H hEg; rintro e wj ⟨v, rfl, rfl, hEg⟩)
    | (go_at_call 31; have H := hN hEg; refine H.mono ?_; clear H hEg; rintro e wk ⟨v, rfl, rfl, hEg⟩))
  go_ret
  exact ⟨_, rfl, rfl, hEg.suf ⟨[_, _, _, _, _, _, _, _, _, _, _, _, _], rfl⟩⟩
end Go.Proofs.Ytohdljcpaogokaa
