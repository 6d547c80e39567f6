/-
  The call that stands next, as the document takes it. Printed by gen_seg.py.
-/
import Derived.Test.YtohdljcpaogokaaSeB
import Derived.Test.YtohdljcpaogokaaRo3
import Derived.Test.YtohdljcpaogokaaSln
import Derived.Test.YtohdljcpaogokaaSeC
namespace Go.SL
section
variable {P : Program} {w : World} {l : List HProp} {ops : Array Oper} {o : Oper} {a : Act} {Q : Exit → Act → World → Prop}
theorem step_storeW {K : Act → World → Prop} {E : Prop} (hE : Ent l w) (i : Nat) {b : Nat} {cs : Array Value} {T : TypeId} (hi : l[i]? = some (pt b (.cells cs T (0, 0))))
    {t : TypeId} {x y : Operand} (ho : o.op = .store t x y) (hw : Region.wanted o (yielded ops a.tmps) = true) (hx : a.eval x = .pointer (some ⟨b, 0, none⟩)) {xs : List Value} (hy : a.eval y = .agg xs.toArray)
    {n : Nat} (hn : ∀ w, (Go.sizeOf t).run P w = .ok n w) (hc : xs.length = n) (h1 : ∀ u ∈ xs, u.oneCell' = true) (hfit : cs.size = n)
    (h : ∀ w', Ent (l.set i (pt b (.cells xs.toArray T (0, 0)))) w' → K (a.put o.dst undef) w') : if Region.wanted o (yielded ops a.tmps) = true then Oper.wp P o a w K Q else E := by
  rw [if_pos hw]
  have hr := run_storeV (P := P) hE i hi (off := 0) (v := .agg xs.toArray) hn (by simpa [Value.cells] using hc) (by simpa [Value.cells] using h1) (by omega)
  have e : (cs.toList.take 0 ++ (Value.agg xs.toArray).cells.toList ++ cs.toList.drop (0 + (Value.agg xs.toArray).cells.toList.length)).toArray = xs.toArray := by
    simp [Value.cells, hc, ← hfit]
  rw [e] at hr
  unfold Oper.wp execOp
  simp only [ho, hx, hy, Sem.run_bind, Sem.run_pure, Result.andThen_ok, hr]
  exact h _ (hE.setRow i hi _)
theorem results_cellAA {fn : Func} {k j : Tmp} {t u : TypeId} (h : fn.results = #[.cell k t, .cell j u]) {tmps : Array Value} (hE : Ent l w) (i i2 : Nat) {b b2 : Nat} {xs ys : List Value} {T T2 : TypeId} {fz fz2 : Nat × Nat} (hi : l[i]? = some (pt b (.cells xs.toArray T fz))) (hi2 : l[i2]? = some (pt b2 (.cells ys.toArray T2 fz2)))
    (hp : tmps.getD k undef = .pointer (some ⟨b, 0, none⟩)) (hp2 : tmps.getD j undef = .pointer (some ⟨b2, 0, none⟩)) (hA : ∀ w, (isAgg t).run P w = .ok true w) (hA2 : ∀ w, (isAgg u).run P w = .ok true w) {n n2 : Nat} (hn : ∀ w, (Go.sizeOf t).run P w = .ok n w) (hn2 : ∀ w, (Go.sizeOf u).run P w = .ok n2 w)
    (hl : xs.length = n) (hl2 : ys.length = n2) : (results fn tmps).run P w = .ok (.tuple #[.agg xs.toArray, .agg ys.toArray]) w := by
  have hp' : tmps[k]?.getD undef = .pointer (some ⟨b, 0, none⟩) := by simpa using hp
  have hp2' : tmps[j]?.getD undef = .pointer (some ⟨b2, 0, none⟩) := by simpa using hp2
  simp only [results, h]
  simp [hp', hp2', asAddr, run_resultA hE i hi hA hn hl, run_resultA hE i2 hi2 hA2 hn2 hl2]
end
end Go.SL
namespace Go.Proofs.Ytohdljcpaogokaa
open Go.RowKit Go.SL

theorem pent_d {s : St} {d : UInt8} (h : UInt8.ofNat (tkV 1 s) = d) : tkV 1 s = d.toNat := by
  have := tkV1_lt s
  rw [← h]; simp; omega
abbrev ecl (d : Nat) (name path : List UInt8) (ao : Option Addr) (n c acts : Nat) (keep : List UInt8) : List Value := [.int .u8 d, .string ⟨name.toArray⟩, .string ⟨path.toArray⟩, .slice ao n c, .int .u16 acts, .string ⟨keep.toArray⟩]
def OneRel (n : Nat) (name : List UInt8) (s2 : St) (b11 b5 : Nat) (l : List HProp) (i : Value) (wr : World) : Prop :=
  ∃ (k : Nat) (t : List TE) (s : St) (ao : Option Addr) (c : Nat), k ≤ n ∧ i = .int .u64 k ∧ t = (ptes k s2).1 ∧ s = (ptes k s2).2 ∧
    Ent (pt b11 (.cells (rcs s).toArray 108) :: pt b5 (.cells #[.int .u8 0, .string ⟨name.toArray⟩, .string ⟨#[]⟩, .slice ao t.length c, .int .u16 0, .string ⟨#[]⟩] 84) :: trow ao c t :: l) wr


set_option maxRecDepth 100000 in
set_option maxHeartbeats 4000000 in
attribute [-go_sem] Instr.loadAt in
theorem one_0 {s : St} (hb : s.bs.length ≤ 1000000000) (h : UInt8.ofNat (tkV 1 s) = 0) {l : List HProp} {w : World} (hE : Ent l w) :
    Calls Try.prog 53 #[.agg (rcs s).toArray] w (Ret fun v w' => ∃ ao c, v = .tuple #[.agg (xcells (pent s).1 ao c).toArray, .agg (rcs (pent s).2).toArray] ∧ Ent (trow ao c (pent s).1.tree :: l) w') := by
  have hd := pent_d h
  have hP : pent s = (⟨0, nmV (tk 1 s), [], (ptes (tkV 1 (nm (tk 1 s))) (tk 1 (nm (tk 1 s)))).1, 0, []⟩, (ptes (tkV 1 (nm (tk 1 s))) (tk 1 (nm (tk 1 s)))).2) := by
    unfold pent
    simp [h, hasName, hasPath, hasTree, hasActs, hasKeep]
  have hT : ∀ {l : List HProp} {w : World}, Ent l w → Calls Try.prog 61 #[.agg (rcs s).toArray, .int .i64 1] w (Ret fun v w' => v = .tuple #[.int .u64 0, .agg (rcs (tk 1 s)).toArray] ∧ Ent l w') := fun h => by have H := rTake_1 h (by omega : s.bs.length ≤ 1099511627776); rw [hd] at H; exact H
  have hwd : IntKind.u8.wrap (0 : Int) = 0 := by decide
  clear h hd
  have L1 : (tk 1 s).bs.length ≤ 1000000000 := Nat.le_trans (tk_len 1 s) hb
  generalize tk 1 s = s1 at *
  have hN1 : ∀ {l : List HProp} {w : World}, Ent l w → Calls Try.prog 62 #[.agg (rcs s1).toArray] w (Ret fun v w' => v = .tuple #[.string ⟨(nmV s1).toArray⟩, .agg (rcs (nm s1)).toArray] ∧ Ent l w') := fun h => rName_any h (by omega)
  have L2 : (nm s1).bs.length ≤ 1000000000 := Nat.le_trans (nm_len s1) L1
  generalize nm s1 = s2 at *
  generalize nmV s1 = y1 at *
  have hC : ∀ {l : List HProp} {w : World}, Ent l w → Calls Try.prog 61 #[.agg (rcs s2).toArray, .int .i64 1] w (Ret fun v w' => v = .tuple #[.int .u64 (tkV 1 s2), .agg (rcs (tk 1 s2)).toArray] ∧ Ent l w') := fun h => rTake_1 h (by omega)
  have L3 : (tk 1 s2).bs.length ≤ 1000000000 := Nat.le_trans (tk_len 1 s2) L2
  have hnl := tkV1_lt s2
  generalize tk 1 s2 = s3 at *
  generalize tkV 1 s2 = n at *
  have Hd := SL.hid hP
  clear hP
  go_enter Try.func53, Try.ntmps53
  go_wp2_with (first
    | go_skip
    | ((with_reducible (show Go.wpList _ _ _ (Go.Oper.mk _ (.box _ _) _ _ _ _ :: _) _ _)); refine wpl_box hE rfl rfl rfl ?_; clear hE; intro b1 w hA; change Ent (pt b1 (.cells (rcs s).toArray 108) :: l) w at hA)
    | ((with_reducible (show Go.wpList _ _ _ (Go.Oper.mk _ (.alloc 84) _ _ _ _ :: _) _ _)); refine wpl_alloc hA rfl rfl (by simp [go_sem]; rfl) ?_; clear hA; intro b2 w hB; simp only [Act.eval, Act.put, List.setIfInBounds_toArray, List.set_cons_zero, List.set_cons_succ, getD_lit, List.getD_cons_succ, List.getD_cons_zero, Value.cells] at hB)
    | ((with_reducible (show Go.wpList _ _ _ (Go.Oper.mk _ (.alloc 108) _ _ _ _ :: _) _ _)); refine wpl_alloc hB rfl rfl (by simp [go_sem]; rfl) ?_; clear hB; intro b3 w hC1; simp only [Act.eval, Act.put, List.setIfInBounds_toArray, List.set_cons_zero, List.set_cons_succ, getD_lit, List.getD_cons_succ, List.getD_cons_zero, Value.cells] at hC1)
    | ((with_reducible (show Go.wpList _ _ _ (Go.Oper.mk _ (.load 108 (.tmp 1)) _ _ _ _ :: _) _ _)); refine wpl_loadW hC1 2 rfl rfl rfl rfl Try.isAgg108 Try.sizeOf108 (xs := rcs s) rfl ?_)
    | (go_at_call 61; refine (hT hC1).mono ?_; clear hC1; rintro e w2 ⟨v, rfl, rfl, hC2⟩)
    | ((with_reducible (show Go.wpList _ _ _ (Go.Oper.mk _ (.store 108 (.tmp 1) _) _ _ _ _ :: _) _ _)); refine wpl_storeW hC2 2 rfl rfl rfl (xs := rcs s1) rfl rfl Try.sizeOf108 rfl (by simp [rcs, Value.oneCell']) rfl ?_; clear hC2; intro w hC3; simp only [List.set_cons_zero, List.set_cons_succ] at hC3)
    | ((with_reducible (show Go.wpList _ _ _ (Go.Oper.mk _ (.alloc 84) _ _ _ _ :: _) _ _)); refine wpl_alloc hC3 rfl rfl (by simp [go_sem]; rfl) ?_; clear hC3; intro b5 w hC4; simp only [Act.eval, Act.put, List.setIfInBounds_toArray, List.set_cons_zero, List.set_cons_succ, getD_lit, List.getD_cons_succ, List.getD_cons_zero, Value.cells] at hC4)
    | ((with_reducible (show Go.wpList _ _ _ (Go.Oper.mk _ (.store 84 (.tmp 5) _) _ _ _ _ :: _) _ _)); refine wpl_storeW hC4 0 rfl rfl rfl (xs := [.int .u8 0, .string ⟨#[]⟩, .string ⟨#[]⟩, .slice none 0 0, .int .u16 0, .string ⟨#[]⟩]) rfl rfl Try.sizeOf84 rfl (by simp [Value.oneCell']) rfl ?_; clear hC4; intro w h; simp only [List.set_cons_zero, List.set_cons_succ] at h)
    | ((with_reducible (show Go.wpList _ _ _ (Go.Oper.mk _ (.load 5 _) _ _ _ _ :: _) _ _)); refine wpl_load1 h 0 rfl rfl rfl rfl (by simp [go_sem]) rfl ?_)
    | ((with_reducible (show Go.wpList _ _ _ (Go.Oper.mk _ (.load 108 (.tmp 1)) _ _ _ _ :: _) _ _)); refine wpl_loadW h 3 rfl rfl rfl rfl Try.isAgg108 Try.sizeOf108 (xs := rcs s1) rfl ?_)
    | (go_at_call 62; refine (hN1 h).mono ?_; clear h; rintro e w2 ⟨v, rfl, rfl, h1a⟩)
    | ((with_reducible (show Go.wpList _ _ _ (Go.Oper.mk _ (.alloc 108) _ _ _ _ :: _) _ _)); refine wpl_alloc h1a rfl rfl (by simp [go_sem]; rfl) ?_; clear h1a; intro c7 w h1b; simp only [Act.eval, Act.put, List.setIfInBounds_toArray, List.set_cons_zero, List.set_cons_succ, getD_lit, List.getD_cons_succ, List.getD_cons_zero, Value.cells] at h1b)
    | ((with_reducible (show Go.wpList _ _ _ (Go.Oper.mk _ (.store 108 (.tmp 7) _) _ _ _ _ :: _) _ _)); refine wpl_storeW h1b 0 rfl rfl rfl (xs := rcs s2) rfl rfl Try.sizeOf108 rfl (by simp [rcs, Value.oneCell']) rfl ?_; clear h1b; intro w h1c; simp only [List.set_cons_zero, List.set_cons_succ] at h1c)
    | ((with_reducible (show Go.wpList _ _ _ (Go.Oper.mk _ (.store 9 _ _) _ _ _ _ :: _) _ _)); refine wpl_store h1c 1 rfl rfl rfl rfl rfl (by simp [go_sem]; rfl) (by rfl) (by simp [Value.cells, Value.oneCell', Act.eval]) (by simp) ?_; clear h1c; intro w h1d; simp only [Act.eval, getD_lit, List.getD_cons_succ, List.getD_cons_zero, Value.cells, List.set_cons_zero, List.set_cons_succ, List.take_succ_cons, List.take_zero, List.nil_append, List.cons_append, List.drop_succ_cons, List.drop_zero, List.length_cons, List.length_nil, Nat.reduceAdd, Nat.zero_add] at h1d)
    | ((with_reducible (show Go.wpList _ _ _ (Go.Oper.mk _ (.load 108 (.tmp 7)) _ _ _ _ :: _) _ _)); refine wpl_loadW h1d 0 rfl rfl rfl rfl Try.isAgg108 Try.sizeOf108 (xs := rcs s2) rfl ?_)
    | ((with_reducible (show Go.wpList _ _ _ (Go.Oper.mk _ (.store 108 (.tmp 1) _) _ _ _ _ :: _) _ _)); refine wpl_storeW h1d 4 rfl rfl rfl (xs := rcs s2) rfl rfl Try.sizeOf108 rfl (by simp [rcs, Value.oneCell']) rfl ?_; clear h1d; intro w h1e; simp only [List.set_cons_zero, List.set_cons_succ] at h1e; replace h1e := h1e.tail)
    | ((with_reducible (show Go.wpList _ _ _ (Go.Oper.mk _ (.load 5 _) _ _ _ _ :: _) _ _)); refine wpl_load1 h1e 0 rfl rfl rfl rfl (by simp [go_sem]) rfl ?_)
    | ((with_reducible (show Go.wpList _ _ _ (Go.Oper.mk _ (.load 108 (.tmp 1)) _ _ _ _ :: _) _ _)); refine wpl_loadW h1e 3 rfl rfl rfl rfl Try.isAgg108 Try.sizeOf108 (xs := rcs s2) rfl ?_)
    | (go_at_call 61; refine (hC h1e).mono ?_; clear h1e; rintro e w2 ⟨v, rfl, rfl, hL1⟩)
    | ((with_reducible (show Go.wpList _ _ _ (Go.Oper.mk _ (.alloc 108) _ _ _ _ :: _) _ _)); refine wpl_alloc hL1 rfl rfl (by simp [go_sem]; rfl) ?_; clear hL1; intro b11 w hL2; simp only [Act.eval, Act.put, List.setIfInBounds_toArray, List.set_cons_zero, List.set_cons_succ, getD_lit, List.getD_cons_succ, List.getD_cons_zero, Value.cells] at hL2)
    | ((with_reducible (show Go.wpList _ _ _ (Go.Oper.mk _ (.store 108 (.tmp 11) _) _ _ _ _ :: _) _ _)); refine wpl_storeW hL2 0 rfl rfl rfl (xs := rcs s3) rfl rfl Try.sizeOf108 rfl (by simp [rcs, Value.oneCell']) rfl ?_; clear hL2; intro w hL3; simp only [List.set_cons_zero, List.set_cons_succ] at hL3))
  have hR := ((hL3.nil 86 3).front 2 rfl).front 2 rfl
  clear hL3
  simp only [List.eraseIdx_cons_zero, List.eraseIdx_cons_succ] at hR
  go_loopw [12] (fun i wr => OneRel n y1 s3 b11 b5 (pt b3 (.cells #[.string ⟨#[]⟩, .bool false] 108) :: pt b2 (.cells #[.int .u8 0, .string ⟨#[]⟩, .string ⟨#[]⟩, .slice none 0 0, .int .u16 0, .string ⟨#[]⟩] 84) :: pt b1 (.cells (rcs s2).toArray 108) :: l) i wr) (fun i _ => n - (intOf i).toNat)
  case atStart => exact ⟨0, [], s3, none, 0, Nat.zero_le _, rfl, rfl, rfl, hR⟩
  case round =>
    clear hR
    obtain ⟨k, t, q, a1, c1, hkl, rfl, ht, hq, hE⟩ := hrel
    by_cases hlt : k < n
    · have hlen : t.length = k := by rw [ht, ptes_count]
      have hlb : t.length ≤ 300 := by omega
      clear hlen
      have Lq : q.bs.length ≤ 1000000000 := by rw [hq]; exact Nat.le_trans (ptes_len _ _) L3
      have Hs := SL.hid (show pte q = pte (ptes k s3).2 by rw [hq])
      have Ht := SL.hid ht
      clear ht hq
      have hwk : IntKind.u64.wrap ((k : Int) + 1) = (k : Int) + 1 := wrapU_id (by omega)
      have Hp := SL.hid (show pte q = (⟨nmV q, tkV 1 (nm q) == 1, txV (tkV 2 (tk 1 (nm q))) (tk 2 (tk 1 (nm q)))⟩, tx (tkV 2 (tk 1 (nm q))) (tk 2 (tk 1 (nm q)))) from rfl)
      have hA1 : ∀ {l : List HProp} {w : World}, Ent l w → Calls Try.prog 62 #[.agg (rcs q).toArray] w (Ret fun v w' => v = .tuple #[.string ⟨(nmV q).toArray⟩, .agg (rcs (nm q)).toArray] ∧ Ent l w') := fun h => rName_any h (by omega)
      have M2 := Nat.le_trans (nm_len q) Lq
      generalize nm q = q2 at *
      generalize nmV q = ys at *
      have hA2 : ∀ {l : List HProp} {w : World}, Ent l w → Calls Try.prog 61 #[.agg (rcs q2).toArray, .int .i64 1] w (Ret fun v w' => v = .tuple #[.int .u64 (tkV 1 q2), .agg (rcs (tk 1 q2)).toArray] ∧ Ent l w') := fun h => rTake_1 h (by omega)
      have M3 := Nat.le_trans (tk_len 1 q2) M2
      generalize tk 1 q2 = q3 at *
      have hA3 : ∀ {l : List HProp} {w : World}, Ent l w → Calls Try.prog 61 #[.agg (rcs q3).toArray, .int .i64 2] w (Ret fun v w' => v = .tuple #[.int .u64 (tkV 2 q3), .agg (rcs (tk 2 q3)).toArray] ∧ Ent l w') := fun h => rTake_2 h (by omega)
      have M4 := Nat.le_trans (tk_len 2 q3) M3
      have hwn := i64wrap (tkV2_lt q3)
      generalize tk 2 q3 = q4 at *
      generalize tkV 2 q3 = m at *
      have hA4 : ∀ {l : List HProp} {w : World}, Ent l w → Calls Try.prog 63 #[.agg (rcs q4).toArray, .int .i64 m] w (Ret fun v w' => v = .tuple #[.string ⟨(txV m q4).toArray⟩, .agg (rcs (tx m q4)).toArray] ∧ Ent l w') := fun h => rText_any h m
      generalize tx m q4 = q5 at *
      generalize txV m q4 = dat at *
      obtain ⟨dir, hdir⟩ : ∃ dir, dir = (tkV 1 q2 == 1) := ⟨_, rfl⟩
      have hdir2 : ((tkV 1 q2 : Int) == 1) = dir := by
        rw [hdir]
        by_cases h : tkV 1 q2 = 1
        · simp [h]
        · rw [beq_eq_false_iff_ne.2 h, beq_eq_false_iff_ne.2 (by omega)]
      have Hp2 := SL.hid (Hs.out ▸ hdir ▸ Hp.out)
      clear Hs Hp hdir
      generalize tkV 1 q2 = n1 at *
      go_wp2_with (first
        | go_skip
        | ((with_reducible (show Go.wpList _ _ _ (Go.Oper.mk _ (.load 108 (.tmp 11)) _ _ _ _ :: _) _ _)); refine wpl_loadW hE 0 rfl rfl rfl rfl Try.isAgg108 Try.sizeOf108 (xs := rcs q) rfl ?_)
        | (go_at_call 62; refine (hA1 hE).mono ?_; clear hE; rintro e w2 ⟨v, rfl, rfl, k1a⟩)
        | ((with_reducible (show Go.wpList _ _ _ (Go.Oper.mk _ (.alloc 108) _ _ _ _ :: _) _ _)); refine wpl_alloc k1a rfl rfl (by simp [go_sem]; rfl) ?_; clear k1a; intro b14 w k1b; simp only [Act.eval, Act.put, List.setIfInBounds_toArray, List.set_cons_zero, List.set_cons_succ, getD_lit, List.getD_cons_succ, List.getD_cons_zero, Value.cells] at k1b)
        | ((with_reducible (show Go.wpList _ _ _ (Go.Oper.mk _ (.store 108 (.tmp 14) _) _ _ _ _ :: _) _ _)); refine wpl_storeW k1b 0 rfl rfl rfl (xs := rcs q2) rfl rfl Try.sizeOf108 rfl (by simp [rcs, Value.oneCell']) rfl ?_; clear k1b; intro w k1c; simp only [List.set_cons_zero, List.set_cons_succ] at k1c)
        | ((with_reducible (show Go.wpList _ _ _ (Go.Oper.mk _ (.load 108 (.tmp 14)) _ _ _ _ :: _) _ _)); refine wpl_loadW k1c 0 rfl rfl rfl rfl Try.isAgg108 Try.sizeOf108 (xs := rcs q2) rfl ?_)
        | (go_at_call 61; refine (hA2 k1c).mono ?_; clear k1c; rintro e w2 ⟨v, rfl, rfl, k2a⟩)
        | ((with_reducible (show Go.wpList _ _ _ (Go.Oper.mk _ (.alloc 108) _ _ _ _ :: _) _ _)); refine wpl_alloc k2a rfl rfl (by simp [go_sem]; rfl) ?_; clear k2a; intro b16 w k2b; simp only [Act.eval, Act.put, List.setIfInBounds_toArray, List.set_cons_zero, List.set_cons_succ, getD_lit, List.getD_cons_succ, List.getD_cons_zero, Value.cells] at k2b)
        | ((with_reducible (show Go.wpList _ _ _ (Go.Oper.mk _ (.store 108 (.tmp 16) _) _ _ _ _ :: _) _ _)); refine wpl_storeW k2b 0 rfl rfl rfl (xs := rcs q3) rfl rfl Try.sizeOf108 rfl (by simp [rcs, Value.oneCell']) rfl ?_; clear k2b; intro w k2c; simp only [List.set_cons_zero, List.set_cons_succ] at k2c; replace k2c := k2c.erase 1; simp only [List.eraseIdx_cons_zero, List.eraseIdx_cons_succ] at k2c)
        | ((with_reducible (show Go.wpList _ _ _ (Go.Oper.mk _ (.load 108 (.tmp 16)) _ _ _ _ :: _) _ _)); refine wpl_loadW k2c 0 rfl rfl rfl rfl Try.isAgg108 Try.sizeOf108 (xs := rcs q3) rfl ?_)
        | (go_at_call 61; refine (hA3 k2c).mono ?_; clear k2c; rintro e w2 ⟨v, rfl, rfl, k3a⟩)
        | ((with_reducible (show Go.wpList _ _ _ (Go.Oper.mk _ (.alloc 108) _ _ _ _ :: _) _ _)); refine wpl_alloc k3a rfl rfl (by simp [go_sem]; rfl) ?_; clear k3a; intro b18 w k3b; simp only [Act.eval, Act.put, List.setIfInBounds_toArray, List.set_cons_zero, List.set_cons_succ, getD_lit, List.getD_cons_succ, List.getD_cons_zero, Value.cells] at k3b)
        | ((with_reducible (show Go.wpList _ _ _ (Go.Oper.mk _ (.store 108 (.tmp 18) _) _ _ _ _ :: _) _ _)); refine wpl_storeW k3b 0 rfl rfl rfl (xs := rcs q4) rfl rfl Try.sizeOf108 rfl (by simp [rcs, Value.oneCell']) rfl ?_; clear k3b; intro w k3c; simp only [List.set_cons_zero, List.set_cons_succ] at k3c; replace k3c := k3c.erase 1; simp only [List.eraseIdx_cons_zero, List.eraseIdx_cons_succ] at k3c)
        | ((with_reducible (show Go.wpList _ _ _ (Go.Oper.mk _ (.load 108 (.tmp 18)) _ _ _ _ :: _) _ _)); refine wpl_loadW k3c 0 rfl rfl rfl rfl Try.isAgg108 Try.sizeOf108 (xs := rcs q4) rfl ?_)
        | (go_at_call 63; refine (hA4 k3c).mono ?_; clear k3c; rintro e w2 ⟨v, rfl, rfl, k4a⟩)
        | ((with_reducible (show Go.wpList _ _ _ (Go.Oper.mk _ (.alloc 108) _ _ _ _ :: _) _ _)); refine wpl_alloc k4a rfl rfl (by simp [go_sem]; rfl) ?_; clear k4a; intro b20 w k4b; simp only [Act.eval, Act.put, List.setIfInBounds_toArray, List.set_cons_zero, List.set_cons_succ, getD_lit, List.getD_cons_succ, List.getD_cons_zero, Value.cells] at k4b)
        | ((with_reducible (show Go.wpList _ _ _ (Go.Oper.mk _ (.store 108 (.tmp 20) _) _ _ _ _ :: _) _ _)); refine wpl_storeW k4b 0 rfl rfl rfl (xs := rcs q5) rfl rfl Try.sizeOf108 rfl (by simp [rcs, Value.oneCell']) rfl ?_; clear k4b; intro w k4c; simp only [List.set_cons_zero, List.set_cons_succ] at k4c; replace k4c := k4c.erase 1; simp only [List.eraseIdx_cons_zero, List.eraseIdx_cons_succ] at k4c)
        | ((with_reducible (show Go.wpList _ _ _ (Go.Oper.mk _ (.load 81 _) _ _ _ _ :: _) _ _)); refine wpl_load1 k4c 2 rfl rfl rfl rfl (by simp [go_sem]) rfl ?_)
        | ((with_reducible (show Go.wpList _ _ _ (Go.Oper.mk _ (.buildSlice _ _ _) _ _ _ _ :: _) _ _)); refine wpl_build1 k4c rfl rfl (xs := tcells ⟨ys, dir, dat⟩) rfl Try.underlying81 (size := 3) (by kernel_rfl) Try.sizeOf86 (by decide) (by decide) rfl ?_; clear k4c; intro bn w5 g1)
        | ((with_reducible (show Go.wpList _ _ _ (Go.Oper.mk _ (.call _) _ _ _ _ :: _) _ _)); refine wpl_appendG g1 4 rfl rfl rfl rfl rfl Try.underlying81 info_entry (by decide) (m := 1) (news := tcells ⟨ys, dir, dat⟩) (reads_pt g1 0 rfl (off := 0) (fun j u hu => by simpa using hu)) rfl (by simp [tcells, Value.oneCell']) (by omega) (by omega) ?_; clear g1; intro ao' c' w6 g2; simp only [List.set_cons_zero, List.set_cons_succ] at g2)
        | ((with_reducible (show Go.wpList _ _ _ (Go.Oper.mk _ (.store 81 _ _) _ _ _ _ :: _) _ _)); refine wpl_store g2 3 rfl rfl rfl rfl rfl (by simp [go_sem]; rfl) (by rfl) (by simp [Value.cells, Value.oneCell', Act.eval]) (by simp) ?_; clear g2; intro w g3; simp only [Act.eval, getD_lit, List.getD_cons_succ, List.getD_cons_zero, Value.cells, List.set_cons_zero, List.set_cons_succ, List.take_succ_cons, List.take_zero, List.nil_append, List.cons_append, List.drop_succ_cons, List.drop_zero, List.length_cons, List.length_nil, Nat.reduceAdd, Nat.zero_add] at g3)
        | ((with_reducible (show Go.wpList _ _ _ (Go.Oper.mk _ (.load 108 (.tmp 20)) _ _ _ _ :: _) _ _)); refine wpl_loadW g3 1 rfl rfl rfl rfl Try.isAgg108 Try.sizeOf108 (xs := rcs q5) rfl ?_)
        | ((with_reducible (show Go.wpList _ _ _ (Go.Oper.mk _ (.store 108 (.tmp 11) _) _ _ _ _ :: _) _ _)); refine wpl_storeW g3 2 rfl rfl rfl (xs := rcs q5) rfl rfl Try.sizeOf108 rfl (by simp [rcs, Value.oneCell']) rfl ?_; clear g3; intro w g4; simp only [List.set_cons_zero, List.set_cons_succ] at g4))
      go_roundw
      case rel =>
        have hE4 := g4.tail.tail
        rw [← treeCells_app] at hE4
        rw [show t.length + 1 = (t ++ [(⟨ys, dir, dat⟩ : TE)]).length by simp] at hE4
        exact ⟨k + 1, t ++ [⟨ys, dir, dat⟩], q5, ao', c', hlt, by simp, by rw [ptes, Ht.out, Hp2.out], by rw [ptes, Hp2.out], hE4⟩
      case measure => simp [intOf]; omega
    · have e : k = n := by omega
      subst e
      rw [← ht, ← hq] at Hd
      clear ht hq
      go_wp2_with (first
        | go_skip
        | ((with_reducible (show Go.wpList _ _ _ (Go.Oper.mk _ (.load 108 (.tmp 11)) _ _ _ _ :: _) _ _)); refine wpl_loadW hE 0 rfl rfl rfl rfl Try.isAgg108 Try.sizeOf108 (xs := rcs q) rfl ?_)
        | ((with_reducible (show Go.wpList _ _ _ (Go.Oper.mk _ (.store 108 (.tmp 1) _) _ _ _ _ :: _) _ _)); refine wpl_storeW hE 5 rfl rfl rfl (xs := rcs q) rfl rfl Try.sizeOf108 rfl (by simp [rcs, Value.oneCell']) rfl ?_; clear hE; intro w hZ; simp only [List.set_cons_zero, List.set_cons_succ] at hZ; replace hZ := hZ.tail)
        | ((with_reducible (show Go.wpList _ _ _ (Go.Oper.mk _ (.load 5 _) _ _ _ _ :: _) _ _)); refine wpl_load1 hZ 0 rfl rfl rfl rfl (by simp [go_sem]) rfl ?_))
      refine wp_region_held_drew (S := (fun w' => (Instr.loadAt 84 (.pointer (some ⟨b5, 0, none⟩))).run Try.prog w' = .ok (.agg #[.int .u8 0, .string ⟨y1.toArray⟩, .string ⟨#[]⟩, .slice a1 t.length c1, .int .u16 0, .string ⟨#[]⟩]) w' ∧ (Instr.loadAt 108 (.pointer (some ⟨b1, 0, none⟩))).run Try.prog w' = .ok (.agg (rcs q).toArray) w')) (by kernel_rfl) ⟨atA hZ.drew 0 rfl Try.isAgg84 Try.sizeOf84 (off := 0) rfl (fun j _ ↦ by simp), atA hZ.drew 4 rfl Try.isAgg108 Try.sizeOf108 (off := 0) rfl (fun j _ ↦ by simp)⟩ (fun hS => ?_)
      refine wpAnyH_take (i := 0) (oi := { dst := some 135, op := Go.Op.load 84 (Go.Operand.tmp 5), type := 84, pos := "ref.go:123", after := #[], guard := none }) (v := ?_) rfl (by kernel_rfl) (by kernel_rfl) (by kernel_rfl) (fun _ _ _ h => h) (Or.inl ⟨by rfl, ?_⟩) hS ?_
      rotate_left
      · (intro w hSw; (try dsimp only at hSw); go_simp; (try with_reducible rfl))
      try simp only [Act.put, List.setIfInBounds_toArray, List.set_cons_zero, List.set_cons_succ]
      refine wpAnyH_take (i := 1) (oi := { dst := some 136, op := Go.Op.load 108 (Go.Operand.tmp 1), type := 108, pos := "ref.go:123", after := #[{ on := 2, ground := Go.Ground.gcOnly Go.Departure.lateStores }], guard := none }) (v := ?_) rfl (by kernel_rfl) (by kernel_rfl) (by kernel_rfl) (fun _ _ _ h => h) (Or.inl ⟨by rfl, ?_⟩) hS ?_
      rotate_left
      · (intro w hSw; (try dsimp only at hSw); go_simp; (try with_reducible rfl))
      try simp only [Act.put, List.setIfInBounds_toArray, List.set_cons_zero, List.set_cons_succ]
      refine wpAnyH_ready (rs := [2]) (by kernel_rfl) (by simp) ?_
      refine (AllReadyH.cons (o := { dst := none, op := Go.Op.store 84 (Go.Operand.tmp 2) (Go.Operand.tmp 135), type := 0, pos := "ref.go:123", after := #[{ on := 0, ground := Go.Ground.data }, { on := 0, ground := Go.Ground.phase }, { on := 1, ground := Go.Ground.textOnly Go.Departure.lateStores }], guard := none }) rfl (fun K hK => ?_) AllReadyH.nil)
      (refine step_storeW hZ.drew 3 rfl (by rfl) (by rfl) (by rfl) (xs := [.int .u8 0, .string ⟨y1.toArray⟩, .string ⟨#[]⟩, .slice a1 t.length c1, .int .u16 0, .string ⟨#[]⟩]) (by rfl) Try.sizeOf84 rfl (by simp [Value.oneCell']) rfl ?_; intro w6 hF1)
      refine hK.out _ _ ⟨atA hF1 0 rfl Try.isAgg84 Try.sizeOf84 (off := 0) rfl (fun j _ ↦ by simp), atA hF1 4 rfl Try.isAgg108 Try.sizeOf108 (off := 0) rfl (fun j _ ↦ by simp)⟩ (fun hS => ?_)
      clear hK K
      try simp only [Act.put, List.setIfInBounds_toArray, List.set_cons_zero, List.set_cons_succ]
      refine wpAnyH_ready (rs := [3]) (by kernel_rfl) (by simp) ?_
      refine (AllReadyH.cons (o := { dst := none, op := Go.Op.store 108 (Go.Operand.tmp 3) (Go.Operand.tmp 136), type := 0, pos := "ref.go:123", after := #[{ on := 1, ground := Go.Ground.data }, { on := 2, ground := Go.Ground.chain }, { on := 0, ground := Go.Ground.phase }, { on := 1, ground := Go.Ground.phase }, { on := 2, ground := Go.Ground.phase }], guard := none }) rfl (fun K hK => ?_) AllReadyH.nil)
      (refine step_storeW hF1 2 rfl (by rfl) (by rfl) (by rfl) (xs := rcs q) (by rfl) Try.sizeOf108 rfl (by simp [rcs, Value.oneCell']) rfl ?_; intro w7 hF2)
      refine hK.out _ _ ⟨atA hF2 0 rfl Try.isAgg84 Try.sizeOf84 (off := 0) rfl (fun j _ ↦ by simp), atA hF2 4 rfl Try.isAgg108 Try.sizeOf108 (off := 0) rfl (fun j _ ↦ by simp)⟩ (fun hS => ?_)
      clear hK K
      try simp only [Act.put, List.setIfInBounds_toArray, List.set_cons_zero, List.set_cons_succ]
      refine wpAnyH_done (by kernel_rfl) ?_ _
      all_goals
        go_wp2
        simp only [List.set_cons_zero, List.set_cons_succ] at hF2
        refine bodyPost_ret (results_cellAA rfl hF2 3 2 rfl rfl rfl rfl Try.isAgg84 Try.isAgg108 Try.sizeOf84 Try.sizeOf108 (xs := [.int .u8 0, .string ⟨y1.toArray⟩, .string ⟨#[]⟩, .slice a1 t.length c1, .int .u16 0, .string ⟨#[]⟩]) (ys := rcs q) rfl rfl) rfl ?_
        exact ⟨_, rfl, a1, c1, by rw [Hd.out]; rfl, by rw [Hd.out]; exact ((hF2.tail.erase 1).erase 1).erase 1⟩

set_option maxRecDepth 100000 in
set_option maxHeartbeats 4000000 in
attribute [-go_sem] Instr.loadAt in
theorem one_1 {s : St} (hb : s.bs.length ≤ 1000000000) (h : UInt8.ofNat (tkV 1 s) = 1) {l : List HProp} {w : World} (hE : Ent l w) :
    Calls Try.prog 53 #[.agg (rcs s).toArray] w (Ret fun v w' => ∃ ao c, v = .tuple #[.agg (xcells (pent s).1 ao c).toArray, .agg (rcs (pent s).2).toArray] ∧ Ent (trow ao c (pent s).1.tree :: l) w') := by
  have hd := pent_d h
  have hP : pent s = (⟨1, nmV (tk 1 s), [], [], 0, []⟩, nm (tk 1 s)) := by
    unfold pent
    simp [h, hasName, hasPath, hasTree, hasActs, hasKeep]
  have hT : ∀ {l : List HProp} {w : World}, Ent l w → Calls Try.prog 61 #[.agg (rcs s).toArray, .int .i64 1] w (Ret fun v w' => v = .tuple #[.int .u64 1, .agg (rcs (tk 1 s)).toArray] ∧ Ent l w') := fun h => by have H := rTake_1 h (by omega : s.bs.length ≤ 1099511627776); rw [hd] at H; exact H
  have hwd : IntKind.u8.wrap (1 : Int) = 1 := by decide
  clear h hd
  have L1 : (tk 1 s).bs.length ≤ 1000000000 := Nat.le_trans (tk_len 1 s) hb
  generalize tk 1 s = s1 at *
  have hN1 : ∀ {l : List HProp} {w : World}, Ent l w → Calls Try.prog 62 #[.agg (rcs s1).toArray] w (Ret fun v w' => v = .tuple #[.string ⟨(nmV s1).toArray⟩, .agg (rcs (nm s1)).toArray] ∧ Ent l w') := fun h => rName_any h (by omega)
  have L2 : (nm s1).bs.length ≤ 1000000000 := Nat.le_trans (nm_len s1) L1
  generalize nm s1 = s2 at *
  generalize nmV s1 = y1 at *
  have Hd := SL.hid hP
  clear hP
  go_enter Try.func53, Try.ntmps53
  go_wp2_with (first
    | go_skip
    | ((with_reducible (show Go.wpList _ _ _ (Go.Oper.mk _ (.box _ _) _ _ _ _ :: _) _ _)); refine wpl_box hE rfl rfl rfl ?_; clear hE; intro b1 w hA; change Ent (pt b1 (.cells (rcs s).toArray 108) :: l) w at hA)
    | ((with_reducible (show Go.wpList _ _ _ (Go.Oper.mk _ (.alloc 84) _ _ _ _ :: _) _ _)); refine wpl_alloc hA rfl rfl (by simp [go_sem]; rfl) ?_; clear hA; intro b2 w hB; simp only [Act.eval, Act.put, List.setIfInBounds_toArray, List.set_cons_zero, List.set_cons_succ, getD_lit, List.getD_cons_succ, List.getD_cons_zero, Value.cells] at hB)
    | ((with_reducible (show Go.wpList _ _ _ (Go.Oper.mk _ (.alloc 108) _ _ _ _ :: _) _ _)); refine wpl_alloc hB rfl rfl (by simp [go_sem]; rfl) ?_; clear hB; intro b3 w hC1; simp only [Act.eval, Act.put, List.setIfInBounds_toArray, List.set_cons_zero, List.set_cons_succ, getD_lit, List.getD_cons_succ, List.getD_cons_zero, Value.cells] at hC1)
    | ((with_reducible (show Go.wpList _ _ _ (Go.Oper.mk _ (.load 108 (.tmp 1)) _ _ _ _ :: _) _ _)); refine wpl_loadW hC1 2 rfl rfl rfl rfl Try.isAgg108 Try.sizeOf108 (xs := rcs s) rfl ?_)
    | (go_at_call 61; refine (hT hC1).mono ?_; clear hC1; rintro e w2 ⟨v, rfl, rfl, hC2⟩)
    | ((with_reducible (show Go.wpList _ _ _ (Go.Oper.mk _ (.store 108 (.tmp 1) _) _ _ _ _ :: _) _ _)); refine wpl_storeW hC2 2 rfl rfl rfl (xs := rcs s1) rfl rfl Try.sizeOf108 rfl (by simp [rcs, Value.oneCell']) rfl ?_; clear hC2; intro w hC3; simp only [List.set_cons_zero, List.set_cons_succ] at hC3)
    | ((with_reducible (show Go.wpList _ _ _ (Go.Oper.mk _ (.alloc 84) _ _ _ _ :: _) _ _)); refine wpl_alloc hC3 rfl rfl (by simp [go_sem]; rfl) ?_; clear hC3; intro b5 w hC4; simp only [Act.eval, Act.put, List.setIfInBounds_toArray, List.set_cons_zero, List.set_cons_succ, getD_lit, List.getD_cons_succ, List.getD_cons_zero, Value.cells] at hC4)
    | ((with_reducible (show Go.wpList _ _ _ (Go.Oper.mk _ (.store 84 (.tmp 5) _) _ _ _ _ :: _) _ _)); refine wpl_storeW hC4 0 rfl rfl rfl (xs := [.int .u8 1, .string ⟨#[]⟩, .string ⟨#[]⟩, .slice none 0 0, .int .u16 0, .string ⟨#[]⟩]) rfl rfl Try.sizeOf84 rfl (by simp [Value.oneCell']) rfl ?_; clear hC4; intro w h; simp only [List.set_cons_zero, List.set_cons_succ] at h)
    | ((with_reducible (show Go.wpList _ _ _ (Go.Oper.mk _ (.load 5 _) _ _ _ _ :: _) _ _)); refine wpl_load1 h 0 rfl rfl rfl rfl (by simp [go_sem]) rfl ?_)
    | ((with_reducible (show Go.wpList _ _ _ (Go.Oper.mk _ (.load 108 (.tmp 1)) _ _ _ _ :: _) _ _)); refine wpl_loadW h 3 rfl rfl rfl rfl Try.isAgg108 Try.sizeOf108 (xs := rcs s1) rfl ?_)
    | (go_at_call 62; refine (hN1 h).mono ?_; clear h; rintro e w2 ⟨v, rfl, rfl, h1a⟩)
    | ((with_reducible (show Go.wpList _ _ _ (Go.Oper.mk _ (.alloc 108) _ _ _ _ :: _) _ _)); refine wpl_alloc h1a rfl rfl (by simp [go_sem]; rfl) ?_; clear h1a; intro c7 w h1b; simp only [Act.eval, Act.put, List.setIfInBounds_toArray, List.set_cons_zero, List.set_cons_succ, getD_lit, List.getD_cons_succ, List.getD_cons_zero, Value.cells] at h1b)
    | ((with_reducible (show Go.wpList _ _ _ (Go.Oper.mk _ (.store 108 (.tmp 7) _) _ _ _ _ :: _) _ _)); refine wpl_storeW h1b 0 rfl rfl rfl (xs := rcs s2) rfl rfl Try.sizeOf108 rfl (by simp [rcs, Value.oneCell']) rfl ?_; clear h1b; intro w h1c; simp only [List.set_cons_zero, List.set_cons_succ] at h1c)
    | ((with_reducible (show Go.wpList _ _ _ (Go.Oper.mk _ (.store 9 _ _) _ _ _ _ :: _) _ _)); refine wpl_store h1c 1 rfl rfl rfl rfl rfl (by simp [go_sem]; rfl) (by rfl) (by simp [Value.cells, Value.oneCell', Act.eval]) (by simp) ?_; clear h1c; intro w h1d; simp only [Act.eval, getD_lit, List.getD_cons_succ, List.getD_cons_zero, Value.cells, List.set_cons_zero, List.set_cons_succ, List.take_succ_cons, List.take_zero, List.nil_append, List.cons_append, List.drop_succ_cons, List.drop_zero, List.length_cons, List.length_nil, Nat.reduceAdd, Nat.zero_add] at h1d)
    | ((with_reducible (show Go.wpList _ _ _ (Go.Oper.mk _ (.load 108 (.tmp 7)) _ _ _ _ :: _) _ _)); refine wpl_loadW h1d 0 rfl rfl rfl rfl Try.isAgg108 Try.sizeOf108 (xs := rcs s2) rfl ?_)
    | ((with_reducible (show Go.wpList _ _ _ (Go.Oper.mk _ (.store 108 (.tmp 1) _) _ _ _ _ :: _) _ _)); refine wpl_storeW h1d 4 rfl rfl rfl (xs := rcs s2) rfl rfl Try.sizeOf108 rfl (by simp [rcs, Value.oneCell']) rfl ?_; clear h1d; intro w h1e; simp only [List.set_cons_zero, List.set_cons_succ] at h1e; replace h1e := h1e.tail)
    | ((with_reducible (show Go.wpList _ _ _ (Go.Oper.mk _ (.load 5 _) _ _ _ _ :: _) _ _)); refine wpl_load1 h1e 0 rfl rfl rfl rfl (by simp [go_sem]) rfl ?_))
  refine wp_region_held_drew (S := (fun w' => (Instr.loadAt 84 (.pointer (some ⟨b5, 0, none⟩))).run Try.prog w' = .ok (.agg #[.int .u8 1, .string ⟨y1.toArray⟩, .string ⟨#[]⟩, .slice none 0 0, .int .u16 0, .string ⟨#[]⟩]) w' ∧ (Instr.loadAt 108 (.pointer (some ⟨b1, 0, none⟩))).run Try.prog w' = .ok (.agg (rcs s2).toArray) w')) (by kernel_rfl) ⟨atA h1e.drew 0 rfl Try.isAgg84 Try.sizeOf84 (off := 0) rfl (fun j _ ↦ by simp), atA h1e.drew 3 rfl Try.isAgg108 Try.sizeOf108 (off := 0) rfl (fun j _ ↦ by simp)⟩ (fun hS => ?_)
  refine wpAnyH_take (i := 0) (oi := { dst := some 135, op := Go.Op.load 84 (Go.Operand.tmp 5), type := 84, pos := "ref.go:123", after := #[], guard := none }) (v := ?_) rfl (by kernel_rfl) (by kernel_rfl) (by kernel_rfl) (fun _ _ _ h => h) (Or.inl ⟨by rfl, ?_⟩) hS ?_
  rotate_left
  · (intro w hSw; (try dsimp only at hSw); go_simp; (try with_reducible rfl))
  try simp only [Act.put, List.setIfInBounds_toArray, List.set_cons_zero, List.set_cons_succ]
  refine wpAnyH_take (i := 1) (oi := { dst := some 136, op := Go.Op.load 108 (Go.Operand.tmp 1), type := 108, pos := "ref.go:123", after := #[{ on := 2, ground := Go.Ground.gcOnly Go.Departure.lateStores }], guard := none }) (v := ?_) rfl (by kernel_rfl) (by kernel_rfl) (by kernel_rfl) (fun _ _ _ h => h) (Or.inl ⟨by rfl, ?_⟩) hS ?_
  rotate_left
  · (intro w hSw; (try dsimp only at hSw); go_simp; (try with_reducible rfl))
  try simp only [Act.put, List.setIfInBounds_toArray, List.set_cons_zero, List.set_cons_succ]
  refine wpAnyH_ready (rs := [2]) (by kernel_rfl) (by simp) ?_
  refine (AllReadyH.cons (o := { dst := none, op := Go.Op.store 84 (Go.Operand.tmp 2) (Go.Operand.tmp 135), type := 0, pos := "ref.go:123", after := #[{ on := 0, ground := Go.Ground.data }, { on := 0, ground := Go.Ground.phase }, { on := 1, ground := Go.Ground.textOnly Go.Departure.lateStores }], guard := none }) rfl (fun K hK => ?_) AllReadyH.nil)
  (refine step_storeW h1e.drew 2 rfl (by rfl) (by rfl) (by rfl) (xs := [.int .u8 1, .string ⟨y1.toArray⟩, .string ⟨#[]⟩, .slice none 0 0, .int .u16 0, .string ⟨#[]⟩]) (by rfl) Try.sizeOf84 rfl (by simp [Value.oneCell']) rfl ?_; intro w6 hF1)
  refine hK.out _ _ ⟨atA hF1 0 rfl Try.isAgg84 Try.sizeOf84 (off := 0) rfl (fun j _ ↦ by simp), atA hF1 3 rfl Try.isAgg108 Try.sizeOf108 (off := 0) rfl (fun j _ ↦ by simp)⟩ (fun hS => ?_)
  clear hK K
  try simp only [Act.put, List.setIfInBounds_toArray, List.set_cons_zero, List.set_cons_succ]
  refine wpAnyH_ready (rs := [3]) (by kernel_rfl) (by simp) ?_
  refine (AllReadyH.cons (o := { dst := none, op := Go.Op.store 108 (Go.Operand.tmp 3) (Go.Operand.tmp 136), type := 0, pos := "ref.go:123", after := #[{ on := 1, ground := Go.Ground.data }, { on := 2, ground := Go.Ground.chain }, { on := 0, ground := Go.Ground.phase }, { on := 1, ground := Go.Ground.phase }, { on := 2, ground := Go.Ground.phase }], guard := none }) rfl (fun K hK => ?_) AllReadyH.nil)
  (refine step_storeW hF1 1 rfl (by rfl) (by rfl) (by rfl) (xs := rcs s2) (by rfl) Try.sizeOf108 rfl (by simp [rcs, Value.oneCell']) rfl ?_; intro w7 hF2)
  refine hK.out _ _ ⟨atA hF2 0 rfl Try.isAgg84 Try.sizeOf84 (off := 0) rfl (fun j _ ↦ by simp), atA hF2 3 rfl Try.isAgg108 Try.sizeOf108 (off := 0) rfl (fun j _ ↦ by simp)⟩ (fun hS => ?_)
  clear hK K
  try simp only [Act.put, List.setIfInBounds_toArray, List.set_cons_zero, List.set_cons_succ]
  refine wpAnyH_done (by kernel_rfl) ?_ _
  all_goals
    go_wp2
    simp only [List.set_cons_zero, List.set_cons_succ] at hF2
    refine bodyPost_ret (results_cellAA rfl hF2 2 1 rfl rfl rfl rfl Try.isAgg84 Try.isAgg108 Try.sizeOf84 Try.sizeOf108 (xs := [.int .u8 1, .string ⟨y1.toArray⟩, .string ⟨#[]⟩, .slice none 0 0, .int .u16 0, .string ⟨#[]⟩]) (ys := rcs s2) rfl rfl) rfl ?_
    exact ⟨_, rfl, none, 0, by rw [Hd.out]; rfl, by rw [Hd.out]; exact (hF2.tail.tail.tail.tail).nil _ _⟩

set_option maxRecDepth 100000 in
set_option maxHeartbeats 4000000 in
attribute [-go_sem] Instr.loadAt in
theorem one_2 {s : St} (hb : s.bs.length ≤ 1000000000) (h : UInt8.ofNat (tkV 1 s) = 2) {l : List HProp} {w : World} (hE : Ent l w) :
    Calls Try.prog 53 #[.agg (rcs s).toArray] w (Ret fun v w' => ∃ ao c, v = .tuple #[.agg (xcells (pent s).1 ao c).toArray, .agg (rcs (pent s).2).toArray] ∧ Ent (trow ao c (pent s).1.tree :: l) w') := by
  have hd := pent_d h
  have hP : pent s = (⟨2, nmV (tk 1 s), nmV (nm (tk 1 s)), [], 0, []⟩, nm (nm (tk 1 s))) := by
    unfold pent
    simp [h, hasName, hasPath, hasTree, hasActs, hasKeep]
  have hT : ∀ {l : List HProp} {w : World}, Ent l w → Calls Try.prog 61 #[.agg (rcs s).toArray, .int .i64 1] w (Ret fun v w' => v = .tuple #[.int .u64 2, .agg (rcs (tk 1 s)).toArray] ∧ Ent l w') := fun h => by have H := rTake_1 h (by omega : s.bs.length ≤ 1099511627776); rw [hd] at H; exact H
  have hwd : IntKind.u8.wrap (2 : Int) = 2 := by decide
  clear h hd
  have L1 : (tk 1 s).bs.length ≤ 1000000000 := Nat.le_trans (tk_len 1 s) hb
  generalize tk 1 s = s1 at *
  have hN1 : ∀ {l : List HProp} {w : World}, Ent l w → Calls Try.prog 62 #[.agg (rcs s1).toArray] w (Ret fun v w' => v = .tuple #[.string ⟨(nmV s1).toArray⟩, .agg (rcs (nm s1)).toArray] ∧ Ent l w') := fun h => rName_any h (by omega)
  have L2 : (nm s1).bs.length ≤ 1000000000 := Nat.le_trans (nm_len s1) L1
  generalize nm s1 = s2 at *
  generalize nmV s1 = y1 at *
  have hN2 : ∀ {l : List HProp} {w : World}, Ent l w → Calls Try.prog 62 #[.agg (rcs s2).toArray] w (Ret fun v w' => v = .tuple #[.string ⟨(nmV s2).toArray⟩, .agg (rcs (nm s2)).toArray] ∧ Ent l w') := fun h => rName_any h (by omega)
  have L3 : (nm s2).bs.length ≤ 1000000000 := Nat.le_trans (nm_len s2) L2
  generalize nm s2 = s3 at *
  generalize nmV s2 = y2 at *
  have Hd := SL.hid hP
  clear hP
  go_enter Try.func53, Try.ntmps53
  go_wp2_with (first
    | go_skip
    | ((with_reducible (show Go.wpList _ _ _ (Go.Oper.mk _ (.box _ _) _ _ _ _ :: _) _ _)); refine wpl_box hE rfl rfl rfl ?_; clear hE; intro b1 w hA; change Ent (pt b1 (.cells (rcs s).toArray 108) :: l) w at hA)
    | ((with_reducible (show Go.wpList _ _ _ (Go.Oper.mk _ (.alloc 84) _ _ _ _ :: _) _ _)); refine wpl_alloc hA rfl rfl (by simp [go_sem]; rfl) ?_; clear hA; intro b2 w hB; simp only [Act.eval, Act.put, List.setIfInBounds_toArray, List.set_cons_zero, List.set_cons_succ, getD_lit, List.getD_cons_succ, List.getD_cons_zero, Value.cells] at hB)
    | ((with_reducible (show Go.wpList _ _ _ (Go.Oper.mk _ (.alloc 108) _ _ _ _ :: _) _ _)); refine wpl_alloc hB rfl rfl (by simp [go_sem]; rfl) ?_; clear hB; intro b3 w hC1; simp only [Act.eval, Act.put, List.setIfInBounds_toArray, List.set_cons_zero, List.set_cons_succ, getD_lit, List.getD_cons_succ, List.getD_cons_zero, Value.cells] at hC1)
    | ((with_reducible (show Go.wpList _ _ _ (Go.Oper.mk _ (.load 108 (.tmp 1)) _ _ _ _ :: _) _ _)); refine wpl_loadW hC1 2 rfl rfl rfl rfl Try.isAgg108 Try.sizeOf108 (xs := rcs s) rfl ?_)
    | (go_at_call 61; refine (hT hC1).mono ?_; clear hC1; rintro e w2 ⟨v, rfl, rfl, hC2⟩)
    | ((with_reducible (show Go.wpList _ _ _ (Go.Oper.mk _ (.store 108 (.tmp 1) _) _ _ _ _ :: _) _ _)); refine wpl_storeW hC2 2 rfl rfl rfl (xs := rcs s1) rfl rfl Try.sizeOf108 rfl (by simp [rcs, Value.oneCell']) rfl ?_; clear hC2; intro w hC3; simp only [List.set_cons_zero, List.set_cons_succ] at hC3)
    | ((with_reducible (show Go.wpList _ _ _ (Go.Oper.mk _ (.alloc 84) _ _ _ _ :: _) _ _)); refine wpl_alloc hC3 rfl rfl (by simp [go_sem]; rfl) ?_; clear hC3; intro b5 w hC4; simp only [Act.eval, Act.put, List.setIfInBounds_toArray, List.set_cons_zero, List.set_cons_succ, getD_lit, List.getD_cons_succ, List.getD_cons_zero, Value.cells] at hC4)
    | ((with_reducible (show Go.wpList _ _ _ (Go.Oper.mk _ (.store 84 (.tmp 5) _) _ _ _ _ :: _) _ _)); refine wpl_storeW hC4 0 rfl rfl rfl (xs := [.int .u8 2, .string ⟨#[]⟩, .string ⟨#[]⟩, .slice none 0 0, .int .u16 0, .string ⟨#[]⟩]) rfl rfl Try.sizeOf84 rfl (by simp [Value.oneCell']) rfl ?_; clear hC4; intro w h; simp only [List.set_cons_zero, List.set_cons_succ] at h)
    | ((with_reducible (show Go.wpList _ _ _ (Go.Oper.mk _ (.load 5 _) _ _ _ _ :: _) _ _)); refine wpl_load1 h 0 rfl rfl rfl rfl (by simp [go_sem]) rfl ?_)
    | ((with_reducible (show Go.wpList _ _ _ (Go.Oper.mk _ (.load 108 (.tmp 1)) _ _ _ _ :: _) _ _)); refine wpl_loadW h 3 rfl rfl rfl rfl Try.isAgg108 Try.sizeOf108 (xs := rcs s1) rfl ?_)
    | (go_at_call 62; refine (hN1 h).mono ?_; clear h; rintro e w2 ⟨v, rfl, rfl, h1a⟩)
    | ((with_reducible (show Go.wpList _ _ _ (Go.Oper.mk _ (.alloc 108) _ _ _ _ :: _) _ _)); refine wpl_alloc h1a rfl rfl (by simp [go_sem]; rfl) ?_; clear h1a; intro c7 w h1b; simp only [Act.eval, Act.put, List.setIfInBounds_toArray, List.set_cons_zero, List.set_cons_succ, getD_lit, List.getD_cons_succ, List.getD_cons_zero, Value.cells] at h1b)
    | ((with_reducible (show Go.wpList _ _ _ (Go.Oper.mk _ (.store 108 (.tmp 7) _) _ _ _ _ :: _) _ _)); refine wpl_storeW h1b 0 rfl rfl rfl (xs := rcs s2) rfl rfl Try.sizeOf108 rfl (by simp [rcs, Value.oneCell']) rfl ?_; clear h1b; intro w h1c; simp only [List.set_cons_zero, List.set_cons_succ] at h1c)
    | ((with_reducible (show Go.wpList _ _ _ (Go.Oper.mk _ (.store 9 _ _) _ _ _ _ :: _) _ _)); refine wpl_store h1c 1 rfl rfl rfl rfl rfl (by simp [go_sem]; rfl) (by rfl) (by simp [Value.cells, Value.oneCell', Act.eval]) (by simp) ?_; clear h1c; intro w h1d; simp only [Act.eval, getD_lit, List.getD_cons_succ, List.getD_cons_zero, Value.cells, List.set_cons_zero, List.set_cons_succ, List.take_succ_cons, List.take_zero, List.nil_append, List.cons_append, List.drop_succ_cons, List.drop_zero, List.length_cons, List.length_nil, Nat.reduceAdd, Nat.zero_add] at h1d)
    | ((with_reducible (show Go.wpList _ _ _ (Go.Oper.mk _ (.load 108 (.tmp 7)) _ _ _ _ :: _) _ _)); refine wpl_loadW h1d 0 rfl rfl rfl rfl Try.isAgg108 Try.sizeOf108 (xs := rcs s2) rfl ?_)
    | ((with_reducible (show Go.wpList _ _ _ (Go.Oper.mk _ (.store 108 (.tmp 1) _) _ _ _ _ :: _) _ _)); refine wpl_storeW h1d 4 rfl rfl rfl (xs := rcs s2) rfl rfl Try.sizeOf108 rfl (by simp [rcs, Value.oneCell']) rfl ?_; clear h1d; intro w h1e; simp only [List.set_cons_zero, List.set_cons_succ] at h1e; replace h1e := h1e.tail)
    | ((with_reducible (show Go.wpList _ _ _ (Go.Oper.mk _ (.load 5 _) _ _ _ _ :: _) _ _)); refine wpl_load1 h1e 0 rfl rfl rfl rfl (by simp [go_sem]) rfl ?_)
    | ((with_reducible (show Go.wpList _ _ _ (Go.Oper.mk _ (.load 108 (.tmp 1)) _ _ _ _ :: _) _ _)); refine wpl_loadW h1e 3 rfl rfl rfl rfl Try.isAgg108 Try.sizeOf108 (xs := rcs s2) rfl ?_)
    | (go_at_call 62; refine (hN2 h1e).mono ?_; clear h1e; rintro e w2 ⟨v, rfl, rfl, h1e2a⟩)
    | ((with_reducible (show Go.wpList _ _ _ (Go.Oper.mk _ (.alloc 108) _ _ _ _ :: _) _ _)); refine wpl_alloc h1e2a rfl rfl (by simp [go_sem]; rfl) ?_; clear h1e2a; intro c9 w h1e2b; simp only [Act.eval, Act.put, List.setIfInBounds_toArray, List.set_cons_zero, List.set_cons_succ, getD_lit, List.getD_cons_succ, List.getD_cons_zero, Value.cells] at h1e2b)
    | ((with_reducible (show Go.wpList _ _ _ (Go.Oper.mk _ (.store 108 (.tmp 9) _) _ _ _ _ :: _) _ _)); refine wpl_storeW h1e2b 0 rfl rfl rfl (xs := rcs s3) rfl rfl Try.sizeOf108 rfl (by simp [rcs, Value.oneCell']) rfl ?_; clear h1e2b; intro w h1e2c; simp only [List.set_cons_zero, List.set_cons_succ] at h1e2c)
    | ((with_reducible (show Go.wpList _ _ _ (Go.Oper.mk _ (.store 9 _ _) _ _ _ _ :: _) _ _)); refine wpl_store h1e2c 1 rfl rfl rfl rfl rfl (by simp [go_sem]; rfl) (by rfl) (by simp [Value.cells, Value.oneCell', Act.eval]) (by simp) ?_; clear h1e2c; intro w h1e2d; simp only [Act.eval, getD_lit, List.getD_cons_succ, List.getD_cons_zero, Value.cells, List.set_cons_zero, List.set_cons_succ, List.take_succ_cons, List.take_zero, List.nil_append, List.cons_append, List.drop_succ_cons, List.drop_zero, List.length_cons, List.length_nil, Nat.reduceAdd, Nat.zero_add] at h1e2d)
    | ((with_reducible (show Go.wpList _ _ _ (Go.Oper.mk _ (.load 108 (.tmp 9)) _ _ _ _ :: _) _ _)); refine wpl_loadW h1e2d 0 rfl rfl rfl rfl Try.isAgg108 Try.sizeOf108 (xs := rcs s3) rfl ?_)
    | ((with_reducible (show Go.wpList _ _ _ (Go.Oper.mk _ (.store 108 (.tmp 1) _) _ _ _ _ :: _) _ _)); refine wpl_storeW h1e2d 4 rfl rfl rfl (xs := rcs s3) rfl rfl Try.sizeOf108 rfl (by simp [rcs, Value.oneCell']) rfl ?_; clear h1e2d; intro w h1e2e; simp only [List.set_cons_zero, List.set_cons_succ] at h1e2e; replace h1e2e := h1e2e.tail)
    | ((with_reducible (show Go.wpList _ _ _ (Go.Oper.mk _ (.load 5 _) _ _ _ _ :: _) _ _)); refine wpl_load1 h1e2e 0 rfl rfl rfl rfl (by simp [go_sem]) rfl ?_))
  refine wp_region_held_drew (S := (fun w' => (Instr.loadAt 84 (.pointer (some ⟨b5, 0, none⟩))).run Try.prog w' = .ok (.agg #[.int .u8 2, .string ⟨y1.toArray⟩, .string ⟨y2.toArray⟩, .slice none 0 0, .int .u16 0, .string ⟨#[]⟩]) w' ∧ (Instr.loadAt 108 (.pointer (some ⟨b1, 0, none⟩))).run Try.prog w' = .ok (.agg (rcs s3).toArray) w')) (by kernel_rfl) ⟨atA h1e2e.drew 0 rfl Try.isAgg84 Try.sizeOf84 (off := 0) rfl (fun j _ ↦ by simp), atA h1e2e.drew 3 rfl Try.isAgg108 Try.sizeOf108 (off := 0) rfl (fun j _ ↦ by simp)⟩ (fun hS => ?_)
  refine wpAnyH_take (i := 0) (oi := { dst := some 135, op := Go.Op.load 84 (Go.Operand.tmp 5), type := 84, pos := "ref.go:123", after := #[], guard := none }) (v := ?_) rfl (by kernel_rfl) (by kernel_rfl) (by kernel_rfl) (fun _ _ _ h => h) (Or.inl ⟨by rfl, ?_⟩) hS ?_
  rotate_left
  · (intro w hSw; (try dsimp only at hSw); go_simp; (try with_reducible rfl))
  try simp only [Act.put, List.setIfInBounds_toArray, List.set_cons_zero, List.set_cons_succ]
  refine wpAnyH_take (i := 1) (oi := { dst := some 136, op := Go.Op.load 108 (Go.Operand.tmp 1), type := 108, pos := "ref.go:123", after := #[{ on := 2, ground := Go.Ground.gcOnly Go.Departure.lateStores }], guard := none }) (v := ?_) rfl (by kernel_rfl) (by kernel_rfl) (by kernel_rfl) (fun _ _ _ h => h) (Or.inl ⟨by rfl, ?_⟩) hS ?_
  rotate_left
  · (intro w hSw; (try dsimp only at hSw); go_simp; (try with_reducible rfl))
  try simp only [Act.put, List.setIfInBounds_toArray, List.set_cons_zero, List.set_cons_succ]
  refine wpAnyH_ready (rs := [2]) (by kernel_rfl) (by simp) ?_
  refine (AllReadyH.cons (o := { dst := none, op := Go.Op.store 84 (Go.Operand.tmp 2) (Go.Operand.tmp 135), type := 0, pos := "ref.go:123", after := #[{ on := 0, ground := Go.Ground.data }, { on := 0, ground := Go.Ground.phase }, { on := 1, ground := Go.Ground.textOnly Go.Departure.lateStores }], guard := none }) rfl (fun K hK => ?_) AllReadyH.nil)
  (refine step_storeW h1e2e.drew 2 rfl (by rfl) (by rfl) (by rfl) (xs := [.int .u8 2, .string ⟨y1.toArray⟩, .string ⟨y2.toArray⟩, .slice none 0 0, .int .u16 0, .string ⟨#[]⟩]) (by rfl) Try.sizeOf84 rfl (by simp [Value.oneCell']) rfl ?_; intro w6 hF1)
  refine hK.out _ _ ⟨atA hF1 0 rfl Try.isAgg84 Try.sizeOf84 (off := 0) rfl (fun j _ ↦ by simp), atA hF1 3 rfl Try.isAgg108 Try.sizeOf108 (off := 0) rfl (fun j _ ↦ by simp)⟩ (fun hS => ?_)
  clear hK K
  try simp only [Act.put, List.setIfInBounds_toArray, List.set_cons_zero, List.set_cons_succ]
  refine wpAnyH_ready (rs := [3]) (by kernel_rfl) (by simp) ?_
  refine (AllReadyH.cons (o := { dst := none, op := Go.Op.store 108 (Go.Operand.tmp 3) (Go.Operand.tmp 136), type := 0, pos := "ref.go:123", after := #[{ on := 1, ground := Go.Ground.data }, { on := 2, ground := Go.Ground.chain }, { on := 0, ground := Go.Ground.phase }, { on := 1, ground := Go.Ground.phase }, { on := 2, ground := Go.Ground.phase }], guard := none }) rfl (fun K hK => ?_) AllReadyH.nil)
  (refine step_storeW hF1 1 rfl (by rfl) (by rfl) (by rfl) (xs := rcs s3) (by rfl) Try.sizeOf108 rfl (by simp [rcs, Value.oneCell']) rfl ?_; intro w7 hF2)
  refine hK.out _ _ ⟨atA hF2 0 rfl Try.isAgg84 Try.sizeOf84 (off := 0) rfl (fun j _ ↦ by simp), atA hF2 3 rfl Try.isAgg108 Try.sizeOf108 (off := 0) rfl (fun j _ ↦ by simp)⟩ (fun hS => ?_)
  clear hK K
  try simp only [Act.put, List.setIfInBounds_toArray, List.set_cons_zero, List.set_cons_succ]
  refine wpAnyH_done (by kernel_rfl) ?_ _
  all_goals
    go_wp2
    simp only [List.set_cons_zero, List.set_cons_succ] at hF2
    refine bodyPost_ret (results_cellAA rfl hF2 2 1 rfl rfl rfl rfl Try.isAgg84 Try.isAgg108 Try.sizeOf84 Try.sizeOf108 (xs := [.int .u8 2, .string ⟨y1.toArray⟩, .string ⟨y2.toArray⟩, .slice none 0 0, .int .u16 0, .string ⟨#[]⟩]) (ys := rcs s3) rfl rfl) rfl ?_
    exact ⟨_, rfl, none, 0, by rw [Hd.out]; rfl, by rw [Hd.out]; exact (hF2.tail.tail.tail.tail).nil _ _⟩

set_option maxRecDepth 100000 in
set_option maxHeartbeats 4000000 in
attribute [-go_sem] Instr.loadAt in
theorem one_3 {s : St} (hb : s.bs.length ≤ 1000000000) (h : UInt8.ofNat (tkV 1 s) = 3) {l : List HProp} {w : World} (hE : Ent l w) :
    Calls Try.prog 53 #[.agg (rcs s).toArray] w (Ret fun v w' => ∃ ao c, v = .tuple #[.agg (xcells (pent s).1 ao c).toArray, .agg (rcs (pent s).2).toArray] ∧ Ent (trow ao c (pent s).1.tree :: l) w') := by
  have hd := pent_d h
  have hP : pent s = (⟨3, nmV (tk 1 s), nmV (nm (tk 1 s)), [], 0, []⟩, nm (nm (tk 1 s))) := by
    unfold pent
    simp [h, hasName, hasPath, hasTree, hasActs, hasKeep]
  have hT : ∀ {l : List HProp} {w : World}, Ent l w → Calls Try.prog 61 #[.agg (rcs s).toArray, .int .i64 1] w (Ret fun v w' => v = .tuple #[.int .u64 3, .agg (rcs (tk 1 s)).toArray] ∧ Ent l w') := fun h => by have H := rTake_1 h (by omega : s.bs.length ≤ 1099511627776); rw [hd] at H; exact H
  have hwd : IntKind.u8.wrap (3 : Int) = 3 := by decide
  clear h hd
  have L1 : (tk 1 s).bs.length ≤ 1000000000 := Nat.le_trans (tk_len 1 s) hb
  generalize tk 1 s = s1 at *
  have hN1 : ∀ {l : List HProp} {w : World}, Ent l w → Calls Try.prog 62 #[.agg (rcs s1).toArray] w (Ret fun v w' => v = .tuple #[.string ⟨(nmV s1).toArray⟩, .agg (rcs (nm s1)).toArray] ∧ Ent l w') := fun h => rName_any h (by omega)
  have L2 : (nm s1).bs.length ≤ 1000000000 := Nat.le_trans (nm_len s1) L1
  generalize nm s1 = s2 at *
  generalize nmV s1 = y1 at *
  have hN2 : ∀ {l : List HProp} {w : World}, Ent l w → Calls Try.prog 62 #[.agg (rcs s2).toArray] w (Ret fun v w' => v = .tuple #[.string ⟨(nmV s2).toArray⟩, .agg (rcs (nm s2)).toArray] ∧ Ent l w') := fun h => rName_any h (by omega)
  have L3 : (nm s2).bs.length ≤ 1000000000 := Nat.le_trans (nm_len s2) L2
  generalize nm s2 = s3 at *
  generalize nmV s2 = y2 at *
  have Hd := SL.hid hP
  clear hP
  go_enter Try.func53, Try.ntmps53
  go_wp2_with (first
    | go_skip
    | ((with_reducible (show Go.wpList _ _ _ (Go.Oper.mk _ (.box _ _) _ _ _ _ :: _) _ _)); refine wpl_box hE rfl rfl rfl ?_; clear hE; intro b1 w hA; change Ent (pt b1 (.cells (rcs s).toArray 108) :: l) w at hA)
    | ((with_reducible (show Go.wpList _ _ _ (Go.Oper.mk _ (.alloc 84) _ _ _ _ :: _) _ _)); refine wpl_alloc hA rfl rfl (by simp [go_sem]; rfl) ?_; clear hA; intro b2 w hB; simp only [Act.eval, Act.put, List.setIfInBounds_toArray, List.set_cons_zero, List.set_cons_succ, getD_lit, List.getD_cons_succ, List.getD_cons_zero, Value.cells] at hB)
    | ((with_reducible (show Go.wpList _ _ _ (Go.Oper.mk _ (.alloc 108) _ _ _ _ :: _) _ _)); refine wpl_alloc hB rfl rfl (by simp [go_sem]; rfl) ?_; clear hB; intro b3 w hC1; simp only [Act.eval, Act.put, List.setIfInBounds_toArray, List.set_cons_zero, List.set_cons_succ, getD_lit, List.getD_cons_succ, List.getD_cons_zero, Value.cells] at hC1)
    | ((with_reducible (show Go.wpList _ _ _ (Go.Oper.mk _ (.load 108 (.tmp 1)) _ _ _ _ :: _) _ _)); refine wpl_loadW hC1 2 rfl rfl rfl rfl Try.isAgg108 Try.sizeOf108 (xs := rcs s) rfl ?_)
    | (go_at_call 61; refine (hT hC1).mono ?_; clear hC1; rintro e w2 ⟨v, rfl, rfl, hC2⟩)
    | ((with_reducible (show Go.wpList _ _ _ (Go.Oper.mk _ (.store 108 (.tmp 1) _) _ _ _ _ :: _) _ _)); refine wpl_storeW hC2 2 rfl rfl rfl (xs := rcs s1) rfl rfl Try.sizeOf108 rfl (by simp [rcs, Value.oneCell']) rfl ?_; clear hC2; intro w hC3; simp only [List.set_cons_zero, List.set_cons_succ] at hC3)
    | ((with_reducible (show Go.wpList _ _ _ (Go.Oper.mk _ (.alloc 84) _ _ _ _ :: _) _ _)); refine wpl_alloc hC3 rfl rfl (by simp [go_sem]; rfl) ?_; clear hC3; intro b5 w hC4; simp only [Act.eval, Act.put, List.setIfInBounds_toArray, List.set_cons_zero, List.set_cons_succ, getD_lit, List.getD_cons_succ, List.getD_cons_zero, Value.cells] at hC4)
    | ((with_reducible (show Go.wpList _ _ _ (Go.Oper.mk _ (.store 84 (.tmp 5) _) _ _ _ _ :: _) _ _)); refine wpl_storeW hC4 0 rfl rfl rfl (xs := [.int .u8 3, .string ⟨#[]⟩, .string ⟨#[]⟩, .slice none 0 0, .int .u16 0, .string ⟨#[]⟩]) rfl rfl Try.sizeOf84 rfl (by simp [Value.oneCell']) rfl ?_; clear hC4; intro w h; simp only [List.set_cons_zero, List.set_cons_succ] at h)
    | ((with_reducible (show Go.wpList _ _ _ (Go.Oper.mk _ (.load 5 _) _ _ _ _ :: _) _ _)); refine wpl_load1 h 0 rfl rfl rfl rfl (by simp [go_sem]) rfl ?_)
    | ((with_reducible (show Go.wpList _ _ _ (Go.Oper.mk _ (.load 108 (.tmp 1)) _ _ _ _ :: _) _ _)); refine wpl_loadW h 3 rfl rfl rfl rfl Try.isAgg108 Try.sizeOf108 (xs := rcs s1) rfl ?_)
    | (go_at_call 62; refine (hN1 h).mono ?_; clear h; rintro e w2 ⟨v, rfl, rfl, h1a⟩)
    | ((with_reducible (show Go.wpList _ _ _ (Go.Oper.mk _ (.alloc 108) _ _ _ _ :: _) _ _)); refine wpl_alloc h1a rfl rfl (by simp [go_sem]; rfl) ?_; clear h1a; intro c7 w h1b; simp only [Act.eval, Act.put, List.setIfInBounds_toArray, List.set_cons_zero, List.set_cons_succ, getD_lit, List.getD_cons_succ, List.getD_cons_zero, Value.cells] at h1b)
    | ((with_reducible (show Go.wpList _ _ _ (Go.Oper.mk _ (.store 108 (.tmp 7) _) _ _ _ _ :: _) _ _)); refine wpl_storeW h1b 0 rfl rfl rfl (xs := rcs s2) rfl rfl Try.sizeOf108 rfl (by simp [rcs, Value.oneCell']) rfl ?_; clear h1b; intro w h1c; simp only [List.set_cons_zero, List.set_cons_succ] at h1c)
    | ((with_reducible (show Go.wpList _ _ _ (Go.Oper.mk _ (.store 9 _ _) _ _ _ _ :: _) _ _)); refine wpl_store h1c 1 rfl rfl rfl rfl rfl (by simp [go_sem]; rfl) (by rfl) (by simp [Value.cells, Value.oneCell', Act.eval]) (by simp) ?_; clear h1c; intro w h1d; simp only [Act.eval, getD_lit, List.getD_cons_succ, List.getD_cons_zero, Value.cells, List.set_cons_zero, List.set_cons_succ, List.take_succ_cons, List.take_zero, List.nil_append, List.cons_append, List.drop_succ_cons, List.drop_zero, List.length_cons, List.length_nil, Nat.reduceAdd, Nat.zero_add] at h1d)
    | ((with_reducible (show Go.wpList _ _ _ (Go.Oper.mk _ (.load 108 (.tmp 7)) _ _ _ _ :: _) _ _)); refine wpl_loadW h1d 0 rfl rfl rfl rfl Try.isAgg108 Try.sizeOf108 (xs := rcs s2) rfl ?_)
    | ((with_reducible (show Go.wpList _ _ _ (Go.Oper.mk _ (.store 108 (.tmp 1) _) _ _ _ _ :: _) _ _)); refine wpl_storeW h1d 4 rfl rfl rfl (xs := rcs s2) rfl rfl Try.sizeOf108 rfl (by simp [rcs, Value.oneCell']) rfl ?_; clear h1d; intro w h1e; simp only [List.set_cons_zero, List.set_cons_succ] at h1e; replace h1e := h1e.tail)
    | ((with_reducible (show Go.wpList _ _ _ (Go.Oper.mk _ (.load 5 _) _ _ _ _ :: _) _ _)); refine wpl_load1 h1e 0 rfl rfl rfl rfl (by simp [go_sem]) rfl ?_)
    | ((with_reducible (show Go.wpList _ _ _ (Go.Oper.mk _ (.load 108 (.tmp 1)) _ _ _ _ :: _) _ _)); refine wpl_loadW h1e 3 rfl rfl rfl rfl Try.isAgg108 Try.sizeOf108 (xs := rcs s2) rfl ?_)
    | (go_at_call 62; refine (hN2 h1e).mono ?_; clear h1e; rintro e w2 ⟨v, rfl, rfl, h1e2a⟩)
    | ((with_reducible (show Go.wpList _ _ _ (Go.Oper.mk _ (.alloc 108) _ _ _ _ :: _) _ _)); refine wpl_alloc h1e2a rfl rfl (by simp [go_sem]; rfl) ?_; clear h1e2a; intro c9 w h1e2b; simp only [Act.eval, Act.put, List.setIfInBounds_toArray, List.set_cons_zero, List.set_cons_succ, getD_lit, List.getD_cons_succ, List.getD_cons_zero, Value.cells] at h1e2b)
    | ((with_reducible (show Go.wpList _ _ _ (Go.Oper.mk _ (.store 108 (.tmp 9) _) _ _ _ _ :: _) _ _)); refine wpl_storeW h1e2b 0 rfl rfl rfl (xs := rcs s3) rfl rfl Try.sizeOf108 rfl (by simp [rcs, Value.oneCell']) rfl ?_; clear h1e2b; intro w h1e2c; simp only [List.set_cons_zero, List.set_cons_succ] at h1e2c)
    | ((with_reducible (show Go.wpList _ _ _ (Go.Oper.mk _ (.store 9 _ _) _ _ _ _ :: _) _ _)); refine wpl_store h1e2c 1 rfl rfl rfl rfl rfl (by simp [go_sem]; rfl) (by rfl) (by simp [Value.cells, Value.oneCell', Act.eval]) (by simp) ?_; clear h1e2c; intro w h1e2d; simp only [Act.eval, getD_lit, List.getD_cons_succ, List.getD_cons_zero, Value.cells, List.set_cons_zero, List.set_cons_succ, List.take_succ_cons, List.take_zero, List.nil_append, List.cons_append, List.drop_succ_cons, List.drop_zero, List.length_cons, List.length_nil, Nat.reduceAdd, Nat.zero_add] at h1e2d)
    | ((with_reducible (show Go.wpList _ _ _ (Go.Oper.mk _ (.load 108 (.tmp 9)) _ _ _ _ :: _) _ _)); refine wpl_loadW h1e2d 0 rfl rfl rfl rfl Try.isAgg108 Try.sizeOf108 (xs := rcs s3) rfl ?_)
    | ((with_reducible (show Go.wpList _ _ _ (Go.Oper.mk _ (.store 108 (.tmp 1) _) _ _ _ _ :: _) _ _)); refine wpl_storeW h1e2d 4 rfl rfl rfl (xs := rcs s3) rfl rfl Try.sizeOf108 rfl (by simp [rcs, Value.oneCell']) rfl ?_; clear h1e2d; intro w h1e2e; simp only [List.set_cons_zero, List.set_cons_succ] at h1e2e; replace h1e2e := h1e2e.tail)
    | ((with_reducible (show Go.wpList _ _ _ (Go.Oper.mk _ (.load 5 _) _ _ _ _ :: _) _ _)); refine wpl_load1 h1e2e 0 rfl rfl rfl rfl (by simp [go_sem]) rfl ?_))
  refine wp_region_held_drew (S := (fun w' => (Instr.loadAt 84 (.pointer (some ⟨b5, 0, none⟩))).run Try.prog w' = .ok (.agg #[.int .u8 3, .string ⟨y1.toArray⟩, .string ⟨y2.toArray⟩, .slice none 0 0, .int .u16 0, .string ⟨#[]⟩]) w' ∧ (Instr.loadAt 108 (.pointer (some ⟨b1, 0, none⟩))).run Try.prog w' = .ok (.agg (rcs s3).toArray) w')) (by kernel_rfl) ⟨atA h1e2e.drew 0 rfl Try.isAgg84 Try.sizeOf84 (off := 0) rfl (fun j _ ↦ by simp), atA h1e2e.drew 3 rfl Try.isAgg108 Try.sizeOf108 (off := 0) rfl (fun j _ ↦ by simp)⟩ (fun hS => ?_)
  refine wpAnyH_take (i := 0) (oi := { dst := some 135, op := Go.Op.load 84 (Go.Operand.tmp 5), type := 84, pos := "ref.go:123", after := #[], guard := none }) (v := ?_) rfl (by kernel_rfl) (by kernel_rfl) (by kernel_rfl) (fun _ _ _ h => h) (Or.inl ⟨by rfl, ?_⟩) hS ?_
  rotate_left
  · (intro w hSw; (try dsimp only at hSw); go_simp; (try with_reducible rfl))
  try simp only [Act.put, List.setIfInBounds_toArray, List.set_cons_zero, List.set_cons_succ]
  refine wpAnyH_take (i := 1) (oi := { dst := some 136, op := Go.Op.load 108 (Go.Operand.tmp 1), type := 108, pos := "ref.go:123", after := #[{ on := 2, ground := Go.Ground.gcOnly Go.Departure.lateStores }], guard := none }) (v := ?_) rfl (by kernel_rfl) (by kernel_rfl) (by kernel_rfl) (fun _ _ _ h => h) (Or.inl ⟨by rfl, ?_⟩) hS ?_
  rotate_left
  · (intro w hSw; (try dsimp only at hSw); go_simp; (try with_reducible rfl))
  try simp only [Act.put, List.setIfInBounds_toArray, List.set_cons_zero, List.set_cons_succ]
  refine wpAnyH_ready (rs := [2]) (by kernel_rfl) (by simp) ?_
  refine (AllReadyH.cons (o := { dst := none, op := Go.Op.store 84 (Go.Operand.tmp 2) (Go.Operand.tmp 135), type := 0, pos := "ref.go:123", after := #[{ on := 0, ground := Go.Ground.data }, { on := 0, ground := Go.Ground.phase }, { on := 1, ground := Go.Ground.textOnly Go.Departure.lateStores }], guard := none }) rfl (fun K hK => ?_) AllReadyH.nil)
  (refine step_storeW h1e2e.drew 2 rfl (by rfl) (by rfl) (by rfl) (xs := [.int .u8 3, .string ⟨y1.toArray⟩, .string ⟨y2.toArray⟩, .slice none 0 0, .int .u16 0, .string ⟨#[]⟩]) (by rfl) Try.sizeOf84 rfl (by simp [Value.oneCell']) rfl ?_; intro w6 hF1)
  refine hK.out _ _ ⟨atA hF1 0 rfl Try.isAgg84 Try.sizeOf84 (off := 0) rfl (fun j _ ↦ by simp), atA hF1 3 rfl Try.isAgg108 Try.sizeOf108 (off := 0) rfl (fun j _ ↦ by simp)⟩ (fun hS => ?_)
  clear hK K
  try simp only [Act.put, List.setIfInBounds_toArray, List.set_cons_zero, List.set_cons_succ]
  refine wpAnyH_ready (rs := [3]) (by kernel_rfl) (by simp) ?_
  refine (AllReadyH.cons (o := { dst := none, op := Go.Op.store 108 (Go.Operand.tmp 3) (Go.Operand.tmp 136), type := 0, pos := "ref.go:123", after := #[{ on := 1, ground := Go.Ground.data }, { on := 2, ground := Go.Ground.chain }, { on := 0, ground := Go.Ground.phase }, { on := 1, ground := Go.Ground.phase }, { on := 2, ground := Go.Ground.phase }], guard := none }) rfl (fun K hK => ?_) AllReadyH.nil)
  (refine step_storeW hF1 1 rfl (by rfl) (by rfl) (by rfl) (xs := rcs s3) (by rfl) Try.sizeOf108 rfl (by simp [rcs, Value.oneCell']) rfl ?_; intro w7 hF2)
  refine hK.out _ _ ⟨atA hF2 0 rfl Try.isAgg84 Try.sizeOf84 (off := 0) rfl (fun j _ ↦ by simp), atA hF2 3 rfl Try.isAgg108 Try.sizeOf108 (off := 0) rfl (fun j _ ↦ by simp)⟩ (fun hS => ?_)
  clear hK K
  try simp only [Act.put, List.setIfInBounds_toArray, List.set_cons_zero, List.set_cons_succ]
  refine wpAnyH_done (by kernel_rfl) ?_ _
  all_goals
    go_wp2
    simp only [List.set_cons_zero, List.set_cons_succ] at hF2
    refine bodyPost_ret (results_cellAA rfl hF2 2 1 rfl rfl rfl rfl Try.isAgg84 Try.isAgg108 Try.sizeOf84 Try.sizeOf108 (xs := [.int .u8 3, .string ⟨y1.toArray⟩, .string ⟨y2.toArray⟩, .slice none 0 0, .int .u16 0, .string ⟨#[]⟩]) (ys := rcs s3) rfl rfl) rfl ?_
    exact ⟨_, rfl, none, 0, by rw [Hd.out]; rfl, by rw [Hd.out]; exact (hF2.tail.tail.tail.tail).nil _ _⟩

set_option maxRecDepth 100000 in
set_option maxHeartbeats 4000000 in
attribute [-go_sem] Instr.loadAt in
theorem one_7 {s : St} (hb : s.bs.length ≤ 1000000000) (h : UInt8.ofNat (tkV 1 s) = 7) {l : List HProp} {w : World} (hE : Ent l w) :
    Calls Try.prog 53 #[.agg (rcs s).toArray] w (Ret fun v w' => ∃ ao c, v = .tuple #[.agg (xcells (pent s).1 ao c).toArray, .agg (rcs (pent s).2).toArray] ∧ Ent (trow ao c (pent s).1.tree :: l) w') := by
  have hd := pent_d h
  have hP : pent s = (⟨7, [], [], [], tkV 2 (tk 1 s) % 65536, nmV (tk 2 (tk 1 s))⟩, nm (tk 2 (tk 1 s))) := by
    unfold pent
    simp [h, hasName, hasPath, hasTree, hasActs, hasKeep]
  have hT : ∀ {l : List HProp} {w : World}, Ent l w → Calls Try.prog 61 #[.agg (rcs s).toArray, .int .i64 1] w (Ret fun v w' => v = .tuple #[.int .u64 7, .agg (rcs (tk 1 s)).toArray] ∧ Ent l w') := fun h => by have H := rTake_1 h (by omega : s.bs.length ≤ 1099511627776); rw [hd] at H; exact H
  have hwd : IntKind.u8.wrap (7 : Int) = 7 := by decide
  clear h hd
  have L1 : (tk 1 s).bs.length ≤ 1000000000 := Nat.le_trans (tk_len 1 s) hb
  generalize tk 1 s = s1 at *
  have hW : ∀ {l : List HProp} {w : World}, Ent l w → Calls Try.prog 61 #[.agg (rcs s1).toArray, .int .i64 2] w (Ret fun v w' => v = .tuple #[.int .u64 (tkV 2 s1), .agg (rcs (tk 2 s1)).toArray] ∧ Ent l w') := fun h => rTake_2 h (by omega)
  have L2 : (tk 2 s1).bs.length ≤ 1000000000 := Nat.le_trans (tk_len 2 s1) L1
  generalize tk 2 s1 = s2 at *
  generalize tkV 2 s1 = z at *
  obtain ⟨zz, ezz⟩ : ∃ y, y = z % 65536 := ⟨_, rfl⟩
  have hz1 : IntKind.u16.wrap (z : Int) = (zz : Int) := by
    rw [ezz]
    simp only [IntKind.wrap, IntKind.bits, IntKind.signed]
    simp
  have hz2 : (z : Int) % 65536 = (zz : Int) := by rw [ezz]; simp
  rw [← ezz] at hP
  clear ezz
  have hN1 : ∀ {l : List HProp} {w : World}, Ent l w → Calls Try.prog 62 #[.agg (rcs s2).toArray] w (Ret fun v w' => v = .tuple #[.string ⟨(nmV s2).toArray⟩, .agg (rcs (nm s2)).toArray] ∧ Ent l w') := fun h => rName_any h (by omega)
  have L3 : (nm s2).bs.length ≤ 1000000000 := Nat.le_trans (nm_len s2) L2
  generalize nm s2 = s3 at *
  generalize nmV s2 = y1 at *
  have Hd := SL.hid hP
  clear hP
  go_enter Try.func53, Try.ntmps53
  go_wp2_with (first
    | go_skip
    | ((with_reducible (show Go.wpList _ _ _ (Go.Oper.mk _ (.box _ _) _ _ _ _ :: _) _ _)); refine wpl_box hE rfl rfl rfl ?_; clear hE; intro b1 w hA; change Ent (pt b1 (.cells (rcs s).toArray 108) :: l) w at hA)
    | ((with_reducible (show Go.wpList _ _ _ (Go.Oper.mk _ (.alloc 84) _ _ _ _ :: _) _ _)); refine wpl_alloc hA rfl rfl (by simp [go_sem]; rfl) ?_; clear hA; intro b2 w hB; simp only [Act.eval, Act.put, List.setIfInBounds_toArray, List.set_cons_zero, List.set_cons_succ, getD_lit, List.getD_cons_succ, List.getD_cons_zero, Value.cells] at hB)
    | ((with_reducible (show Go.wpList _ _ _ (Go.Oper.mk _ (.alloc 108) _ _ _ _ :: _) _ _)); refine wpl_alloc hB rfl rfl (by simp [go_sem]; rfl) ?_; clear hB; intro b3 w hC1; simp only [Act.eval, Act.put, List.setIfInBounds_toArray, List.set_cons_zero, List.set_cons_succ, getD_lit, List.getD_cons_succ, List.getD_cons_zero, Value.cells] at hC1)
    | ((with_reducible (show Go.wpList _ _ _ (Go.Oper.mk _ (.load 108 (.tmp 1)) _ _ _ _ :: _) _ _)); refine wpl_loadW hC1 2 rfl rfl rfl rfl Try.isAgg108 Try.sizeOf108 (xs := rcs s) rfl ?_)
    | (go_at_call 61; refine (hT hC1).mono ?_; clear hC1; rintro e w2 ⟨v, rfl, rfl, hC2⟩)
    | ((with_reducible (show Go.wpList _ _ _ (Go.Oper.mk _ (.store 108 (.tmp 1) _) _ _ _ _ :: _) _ _)); refine wpl_storeW hC2 2 rfl rfl rfl (xs := rcs s1) rfl rfl Try.sizeOf108 rfl (by simp [rcs, Value.oneCell']) rfl ?_; clear hC2; intro w hC3; simp only [List.set_cons_zero, List.set_cons_succ] at hC3)
    | ((with_reducible (show Go.wpList _ _ _ (Go.Oper.mk _ (.alloc 84) _ _ _ _ :: _) _ _)); refine wpl_alloc hC3 rfl rfl (by simp [go_sem]; rfl) ?_; clear hC3; intro b5 w hC4; simp only [Act.eval, Act.put, List.setIfInBounds_toArray, List.set_cons_zero, List.set_cons_succ, getD_lit, List.getD_cons_succ, List.getD_cons_zero, Value.cells] at hC4)
    | ((with_reducible (show Go.wpList _ _ _ (Go.Oper.mk _ (.store 84 (.tmp 5) _) _ _ _ _ :: _) _ _)); refine wpl_storeW hC4 0 rfl rfl rfl (xs := [.int .u8 7, .string ⟨#[]⟩, .string ⟨#[]⟩, .slice none 0 0, .int .u16 0, .string ⟨#[]⟩]) rfl rfl Try.sizeOf84 rfl (by simp [Value.oneCell']) rfl ?_; clear hC4; intro w h; simp only [List.set_cons_zero, List.set_cons_succ] at h)
    | ((with_reducible (show Go.wpList _ _ _ (Go.Oper.mk _ (.load 5 _) _ _ _ _ :: _) _ _)); refine wpl_load1 h 0 rfl rfl rfl rfl (by simp [go_sem]) rfl ?_)
    | ((with_reducible (show Go.wpList _ _ _ (Go.Oper.mk _ (.load 108 (.tmp 1)) _ _ _ _ :: _) _ _)); refine wpl_loadW h 3 rfl rfl rfl rfl Try.isAgg108 Try.sizeOf108 (xs := rcs s1) rfl ?_)
    | (go_at_call 61; refine (hW h).mono ?_; clear h; rintro e w2 ⟨v, rfl, rfl, h3a⟩)
    | ((with_reducible (show Go.wpList _ _ _ (Go.Oper.mk _ (.alloc 108) _ _ _ _ :: _) _ _)); refine wpl_alloc h3a rfl rfl (by simp [go_sem]; rfl) ?_; clear h3a; intro c22 w h3b; simp only [Act.eval, Act.put, List.setIfInBounds_toArray, List.set_cons_zero, List.set_cons_succ, getD_lit, List.getD_cons_succ, List.getD_cons_zero, Value.cells] at h3b)
    | ((with_reducible (show Go.wpList _ _ _ (Go.Oper.mk _ (.store 108 (.tmp 22) _) _ _ _ _ :: _) _ _)); refine wpl_storeW h3b 0 rfl rfl rfl (xs := rcs s2) rfl rfl Try.sizeOf108 rfl (by simp [rcs, Value.oneCell']) rfl ?_; clear h3b; intro w h3c; simp only [List.set_cons_zero, List.set_cons_succ] at h3c)
    | ((with_reducible (show Go.wpList _ _ _ (Go.Oper.mk _ (.store 82 _ _) _ _ _ _ :: _) _ _)); refine wpl_store h3c 1 rfl rfl rfl rfl rfl (by simp [go_sem]; rfl) (by rfl) (by simp [Value.cells, Value.oneCell', Act.eval]) (by simp) ?_; clear h3c; intro w h3d; simp only [Act.eval, getD_lit, List.getD_cons_succ, List.getD_cons_zero, Value.cells, List.set_cons_zero, List.set_cons_succ, List.take_succ_cons, List.take_zero, List.nil_append, List.cons_append, List.drop_succ_cons, List.drop_zero, List.length_cons, List.length_nil, Nat.reduceAdd, Nat.zero_add] at h3d)
    | ((with_reducible (show Go.wpList _ _ _ (Go.Oper.mk _ (.load 108 (.tmp 22)) _ _ _ _ :: _) _ _)); refine wpl_loadW h3d 0 rfl rfl rfl rfl Try.isAgg108 Try.sizeOf108 (xs := rcs s2) rfl ?_)
    | ((with_reducible (show Go.wpList _ _ _ (Go.Oper.mk _ (.store 108 (.tmp 1) _) _ _ _ _ :: _) _ _)); refine wpl_storeW h3d 4 rfl rfl rfl (xs := rcs s2) rfl rfl Try.sizeOf108 rfl (by simp [rcs, Value.oneCell']) rfl ?_; clear h3d; intro w h3e; simp only [List.set_cons_zero, List.set_cons_succ] at h3e; replace h3e := h3e.tail)
    | ((with_reducible (show Go.wpList _ _ _ (Go.Oper.mk _ (.load 5 _) _ _ _ _ :: _) _ _)); refine wpl_load1 h3e 0 rfl rfl rfl rfl (by simp [go_sem]) rfl ?_)
    | ((with_reducible (show Go.wpList _ _ _ (Go.Oper.mk _ (.load 108 (.tmp 1)) _ _ _ _ :: _) _ _)); refine wpl_loadW h3e 3 rfl rfl rfl rfl Try.isAgg108 Try.sizeOf108 (xs := rcs s2) rfl ?_)
    | (go_at_call 62; refine (hN1 h3e).mono ?_; clear h3e; rintro e w2 ⟨v, rfl, rfl, h3e4a⟩)
    | ((with_reducible (show Go.wpList _ _ _ (Go.Oper.mk _ (.alloc 108) _ _ _ _ :: _) _ _)); refine wpl_alloc h3e4a rfl rfl (by simp [go_sem]; rfl) ?_; clear h3e4a; intro c24 w h3e4b; simp only [Act.eval, Act.put, List.setIfInBounds_toArray, List.set_cons_zero, List.set_cons_succ, getD_lit, List.getD_cons_succ, List.getD_cons_zero, Value.cells] at h3e4b)
    | ((with_reducible (show Go.wpList _ _ _ (Go.Oper.mk _ (.store 108 (.tmp 24) _) _ _ _ _ :: _) _ _)); refine wpl_storeW h3e4b 0 rfl rfl rfl (xs := rcs s3) rfl rfl Try.sizeOf108 rfl (by simp [rcs, Value.oneCell']) rfl ?_; clear h3e4b; intro w h3e4c; simp only [List.set_cons_zero, List.set_cons_succ] at h3e4c)
    | ((with_reducible (show Go.wpList _ _ _ (Go.Oper.mk _ (.store 9 _ _) _ _ _ _ :: _) _ _)); refine wpl_store h3e4c 1 rfl rfl rfl rfl rfl (by simp [go_sem]; rfl) (by rfl) (by simp [Value.cells, Value.oneCell', Act.eval]) (by simp) ?_; clear h3e4c; intro w h3e4d; simp only [Act.eval, getD_lit, List.getD_cons_succ, List.getD_cons_zero, Value.cells, List.set_cons_zero, List.set_cons_succ, List.take_succ_cons, List.take_zero, List.nil_append, List.cons_append, List.drop_succ_cons, List.drop_zero, List.length_cons, List.length_nil, Nat.reduceAdd, Nat.zero_add] at h3e4d)
    | ((with_reducible (show Go.wpList _ _ _ (Go.Oper.mk _ (.load 108 (.tmp 24)) _ _ _ _ :: _) _ _)); refine wpl_loadW h3e4d 0 rfl rfl rfl rfl Try.isAgg108 Try.sizeOf108 (xs := rcs s3) rfl ?_)
    | ((with_reducible (show Go.wpList _ _ _ (Go.Oper.mk _ (.store 108 (.tmp 1) _) _ _ _ _ :: _) _ _)); refine wpl_storeW h3e4d 4 rfl rfl rfl (xs := rcs s3) rfl rfl Try.sizeOf108 rfl (by simp [rcs, Value.oneCell']) rfl ?_; clear h3e4d; intro w h3e4e; simp only [List.set_cons_zero, List.set_cons_succ] at h3e4e; replace h3e4e := h3e4e.tail)
    | ((with_reducible (show Go.wpList _ _ _ (Go.Oper.mk _ (.load 5 _) _ _ _ _ :: _) _ _)); refine wpl_load1 h3e4e 0 rfl rfl rfl rfl (by simp [go_sem]) rfl ?_))
  refine wp_region_held_drew (S := (fun w' => (Instr.loadAt 84 (.pointer (some ⟨b5, 0, none⟩))).run Try.prog w' = .ok (.agg #[.int .u8 7, .string ⟨#[]⟩, .string ⟨#[]⟩, .slice none 0 0, .int .u16 zz, .string ⟨y1.toArray⟩]) w' ∧ (Instr.loadAt 108 (.pointer (some ⟨b1, 0, none⟩))).run Try.prog w' = .ok (.agg (rcs s3).toArray) w')) (by kernel_rfl) ⟨atA h3e4e.drew 0 rfl Try.isAgg84 Try.sizeOf84 (off := 0) rfl (fun j _ ↦ by simp), atA h3e4e.drew 3 rfl Try.isAgg108 Try.sizeOf108 (off := 0) rfl (fun j _ ↦ by simp)⟩ (fun hS => ?_)
  refine wpAnyH_take (i := 0) (oi := { dst := some 135, op := Go.Op.load 84 (Go.Operand.tmp 5), type := 84, pos := "ref.go:123", after := #[], guard := none }) (v := ?_) rfl (by kernel_rfl) (by kernel_rfl) (by kernel_rfl) (fun _ _ _ h => h) (Or.inl ⟨by rfl, ?_⟩) hS ?_
  rotate_left
  · (intro w hSw; (try dsimp only at hSw); go_simp; (try with_reducible rfl))
  try simp only [Act.put, List.setIfInBounds_toArray, List.set_cons_zero, List.set_cons_succ]
  refine wpAnyH_take (i := 1) (oi := { dst := some 136, op := Go.Op.load 108 (Go.Operand.tmp 1), type := 108, pos := "ref.go:123", after := #[{ on := 2, ground := Go.Ground.gcOnly Go.Departure.lateStores }], guard := none }) (v := ?_) rfl (by kernel_rfl) (by kernel_rfl) (by kernel_rfl) (fun _ _ _ h => h) (Or.inl ⟨by rfl, ?_⟩) hS ?_
  rotate_left
  · (intro w hSw; (try dsimp only at hSw); go_simp; (try with_reducible rfl))
  try simp only [Act.put, List.setIfInBounds_toArray, List.set_cons_zero, List.set_cons_succ]
  refine wpAnyH_ready (rs := [2]) (by kernel_rfl) (by simp) ?_
  refine (AllReadyH.cons (o := { dst := none, op := Go.Op.store 84 (Go.Operand.tmp 2) (Go.Operand.tmp 135), type := 0, pos := "ref.go:123", after := #[{ on := 0, ground := Go.Ground.data }, { on := 0, ground := Go.Ground.phase }, { on := 1, ground := Go.Ground.textOnly Go.Departure.lateStores }], guard := none }) rfl (fun K hK => ?_) AllReadyH.nil)
  (refine step_storeW h3e4e.drew 2 rfl (by rfl) (by rfl) (by rfl) (xs := [.int .u8 7, .string ⟨#[]⟩, .string ⟨#[]⟩, .slice none 0 0, .int .u16 zz, .string ⟨y1.toArray⟩]) (by rfl) Try.sizeOf84 rfl (by simp [Value.oneCell']) rfl ?_; intro w6 hF1)
  refine hK.out _ _ ⟨atA hF1 0 rfl Try.isAgg84 Try.sizeOf84 (off := 0) rfl (fun j _ ↦ by simp), atA hF1 3 rfl Try.isAgg108 Try.sizeOf108 (off := 0) rfl (fun j _ ↦ by simp)⟩ (fun hS => ?_)
  clear hK K
  try simp only [Act.put, List.setIfInBounds_toArray, List.set_cons_zero, List.set_cons_succ]
  refine wpAnyH_ready (rs := [3]) (by kernel_rfl) (by simp) ?_
  refine (AllReadyH.cons (o := { dst := none, op := Go.Op.store 108 (Go.Operand.tmp 3) (Go.Operand.tmp 136), type := 0, pos := "ref.go:123", after := #[{ on := 1, ground := Go.Ground.data }, { on := 2, ground := Go.Ground.chain }, { on := 0, ground := Go.Ground.phase }, { on := 1, ground := Go.Ground.phase }, { on := 2, ground := Go.Ground.phase }], guard := none }) rfl (fun K hK => ?_) AllReadyH.nil)
  (refine step_storeW hF1 1 rfl (by rfl) (by rfl) (by rfl) (xs := rcs s3) (by rfl) Try.sizeOf108 rfl (by simp [rcs, Value.oneCell']) rfl ?_; intro w7 hF2)
  refine hK.out _ _ ⟨atA hF2 0 rfl Try.isAgg84 Try.sizeOf84 (off := 0) rfl (fun j _ ↦ by simp), atA hF2 3 rfl Try.isAgg108 Try.sizeOf108 (off := 0) rfl (fun j _ ↦ by simp)⟩ (fun hS => ?_)
  clear hK K
  try simp only [Act.put, List.setIfInBounds_toArray, List.set_cons_zero, List.set_cons_succ]
  refine wpAnyH_done (by kernel_rfl) ?_ _
  all_goals
    go_wp2
    simp only [List.set_cons_zero, List.set_cons_succ] at hF2
    refine bodyPost_ret (results_cellAA rfl hF2 2 1 rfl rfl rfl rfl Try.isAgg84 Try.isAgg108 Try.sizeOf84 Try.sizeOf108 (xs := [.int .u8 7, .string ⟨#[]⟩, .string ⟨#[]⟩, .slice none 0 0, .int .u16 zz, .string ⟨y1.toArray⟩]) (ys := rcs s3) rfl rfl) rfl ?_
    exact ⟨_, rfl, none, 0, by rw [Hd.out]; rfl, by rw [Hd.out]; exact (hF2.tail.tail.tail.tail).nil _ _⟩

set_option maxRecDepth 100000 in
set_option maxHeartbeats 4000000 in
attribute [-go_sem] Instr.loadAt in
theorem one_8 {s : St} (hb : s.bs.length ≤ 1000000000) (h : UInt8.ofNat (tkV 1 s) = 8) {l : List HProp} {w : World} (hE : Ent l w) :
    Calls Try.prog 53 #[.agg (rcs s).toArray] w (Ret fun v w' => ∃ ao c, v = .tuple #[.agg (xcells (pent s).1 ao c).toArray, .agg (rcs (pent s).2).toArray] ∧ Ent (trow ao c (pent s).1.tree :: l) w') := by
  have hd := pent_d h
  have hP : pent s = (⟨8, [], [], [], 0, nmV (tk 1 s)⟩, nm (tk 1 s)) := by
    unfold pent
    simp [h, hasName, hasPath, hasTree, hasActs, hasKeep]
  have hT : ∀ {l : List HProp} {w : World}, Ent l w → Calls Try.prog 61 #[.agg (rcs s).toArray, .int .i64 1] w (Ret fun v w' => v = .tuple #[.int .u64 8, .agg (rcs (tk 1 s)).toArray] ∧ Ent l w') := fun h => by have H := rTake_1 h (by omega : s.bs.length ≤ 1099511627776); rw [hd] at H; exact H
  have hwd : IntKind.u8.wrap (8 : Int) = 8 := by decide
  clear h hd
  have L1 : (tk 1 s).bs.length ≤ 1000000000 := Nat.le_trans (tk_len 1 s) hb
  generalize tk 1 s = s1 at *
  have hN1 : ∀ {l : List HProp} {w : World}, Ent l w → Calls Try.prog 62 #[.agg (rcs s1).toArray] w (Ret fun v w' => v = .tuple #[.string ⟨(nmV s1).toArray⟩, .agg (rcs (nm s1)).toArray] ∧ Ent l w') := fun h => rName_any h (by omega)
  have L2 : (nm s1).bs.length ≤ 1000000000 := Nat.le_trans (nm_len s1) L1
  generalize nm s1 = s2 at *
  generalize nmV s1 = y1 at *
  have Hd := SL.hid hP
  clear hP
  go_enter Try.func53, Try.ntmps53
  go_wp2_with (first
    | go_skip
    | ((with_reducible (show Go.wpList _ _ _ (Go.Oper.mk _ (.box _ _) _ _ _ _ :: _) _ _)); refine wpl_box hE rfl rfl rfl ?_; clear hE; intro b1 w hA; change Ent (pt b1 (.cells (rcs s).toArray 108) :: l) w at hA)
    | ((with_reducible (show Go.wpList _ _ _ (Go.Oper.mk _ (.alloc 84) _ _ _ _ :: _) _ _)); refine wpl_alloc hA rfl rfl (by simp [go_sem]; rfl) ?_; clear hA; intro b2 w hB; simp only [Act.eval, Act.put, List.setIfInBounds_toArray, List.set_cons_zero, List.set_cons_succ, getD_lit, List.getD_cons_succ, List.getD_cons_zero, Value.cells] at hB)
    | ((with_reducible (show Go.wpList _ _ _ (Go.Oper.mk _ (.alloc 108) _ _ _ _ :: _) _ _)); refine wpl_alloc hB rfl rfl (by simp [go_sem]; rfl) ?_; clear hB; intro b3 w hC1; simp only [Act.eval, Act.put, List.setIfInBounds_toArray, List.set_cons_zero, List.set_cons_succ, getD_lit, List.getD_cons_succ, List.getD_cons_zero, Value.cells] at hC1)
    | ((with_reducible (show Go.wpList _ _ _ (Go.Oper.mk _ (.load 108 (.tmp 1)) _ _ _ _ :: _) _ _)); refine wpl_loadW hC1 2 rfl rfl rfl rfl Try.isAgg108 Try.sizeOf108 (xs := rcs s) rfl ?_)
    | (go_at_call 61; refine (hT hC1).mono ?_; clear hC1; rintro e w2 ⟨v, rfl, rfl, hC2⟩)
    | ((with_reducible (show Go.wpList _ _ _ (Go.Oper.mk _ (.store 108 (.tmp 1) _) _ _ _ _ :: _) _ _)); refine wpl_storeW hC2 2 rfl rfl rfl (xs := rcs s1) rfl rfl Try.sizeOf108 rfl (by simp [rcs, Value.oneCell']) rfl ?_; clear hC2; intro w hC3; simp only [List.set_cons_zero, List.set_cons_succ] at hC3)
    | ((with_reducible (show Go.wpList _ _ _ (Go.Oper.mk _ (.alloc 84) _ _ _ _ :: _) _ _)); refine wpl_alloc hC3 rfl rfl (by simp [go_sem]; rfl) ?_; clear hC3; intro b5 w hC4; simp only [Act.eval, Act.put, List.setIfInBounds_toArray, List.set_cons_zero, List.set_cons_succ, getD_lit, List.getD_cons_succ, List.getD_cons_zero, Value.cells] at hC4)
    | ((with_reducible (show Go.wpList _ _ _ (Go.Oper.mk _ (.store 84 (.tmp 5) _) _ _ _ _ :: _) _ _)); refine wpl_storeW hC4 0 rfl rfl rfl (xs := [.int .u8 8, .string ⟨#[]⟩, .string ⟨#[]⟩, .slice none 0 0, .int .u16 0, .string ⟨#[]⟩]) rfl rfl Try.sizeOf84 rfl (by simp [Value.oneCell']) rfl ?_; clear hC4; intro w h; simp only [List.set_cons_zero, List.set_cons_succ] at h)
    | ((with_reducible (show Go.wpList _ _ _ (Go.Oper.mk _ (.load 5 _) _ _ _ _ :: _) _ _)); refine wpl_load1 h 0 rfl rfl rfl rfl (by simp [go_sem]) rfl ?_)
    | ((with_reducible (show Go.wpList _ _ _ (Go.Oper.mk _ (.load 108 (.tmp 1)) _ _ _ _ :: _) _ _)); refine wpl_loadW h 3 rfl rfl rfl rfl Try.isAgg108 Try.sizeOf108 (xs := rcs s1) rfl ?_)
    | (go_at_call 62; refine (hN1 h).mono ?_; clear h; rintro e w2 ⟨v, rfl, rfl, h4a⟩)
    | ((with_reducible (show Go.wpList _ _ _ (Go.Oper.mk _ (.alloc 108) _ _ _ _ :: _) _ _)); refine wpl_alloc h4a rfl rfl (by simp [go_sem]; rfl) ?_; clear h4a; intro c24 w h4b; simp only [Act.eval, Act.put, List.setIfInBounds_toArray, List.set_cons_zero, List.set_cons_succ, getD_lit, List.getD_cons_succ, List.getD_cons_zero, Value.cells] at h4b)
    | ((with_reducible (show Go.wpList _ _ _ (Go.Oper.mk _ (.store 108 (.tmp 24) _) _ _ _ _ :: _) _ _)); refine wpl_storeW h4b 0 rfl rfl rfl (xs := rcs s2) rfl rfl Try.sizeOf108 rfl (by simp [rcs, Value.oneCell']) rfl ?_; clear h4b; intro w h4c; simp only [List.set_cons_zero, List.set_cons_succ] at h4c)
    | ((with_reducible (show Go.wpList _ _ _ (Go.Oper.mk _ (.store 9 _ _) _ _ _ _ :: _) _ _)); refine wpl_store h4c 1 rfl rfl rfl rfl rfl (by simp [go_sem]; rfl) (by rfl) (by simp [Value.cells, Value.oneCell', Act.eval]) (by simp) ?_; clear h4c; intro w h4d; simp only [Act.eval, getD_lit, List.getD_cons_succ, List.getD_cons_zero, Value.cells, List.set_cons_zero, List.set_cons_succ, List.take_succ_cons, List.take_zero, List.nil_append, List.cons_append, List.drop_succ_cons, List.drop_zero, List.length_cons, List.length_nil, Nat.reduceAdd, Nat.zero_add] at h4d)
    | ((with_reducible (show Go.wpList _ _ _ (Go.Oper.mk _ (.load 108 (.tmp 24)) _ _ _ _ :: _) _ _)); refine wpl_loadW h4d 0 rfl rfl rfl rfl Try.isAgg108 Try.sizeOf108 (xs := rcs s2) rfl ?_)
    | ((with_reducible (show Go.wpList _ _ _ (Go.Oper.mk _ (.store 108 (.tmp 1) _) _ _ _ _ :: _) _ _)); refine wpl_storeW h4d 4 rfl rfl rfl (xs := rcs s2) rfl rfl Try.sizeOf108 rfl (by simp [rcs, Value.oneCell']) rfl ?_; clear h4d; intro w h4e; simp only [List.set_cons_zero, List.set_cons_succ] at h4e; replace h4e := h4e.tail)
    | ((with_reducible (show Go.wpList _ _ _ (Go.Oper.mk _ (.load 5 _) _ _ _ _ :: _) _ _)); refine wpl_load1 h4e 0 rfl rfl rfl rfl (by simp [go_sem]) rfl ?_))
  refine wp_region_held_drew (S := (fun w' => (Instr.loadAt 84 (.pointer (some ⟨b5, 0, none⟩))).run Try.prog w' = .ok (.agg #[.int .u8 8, .string ⟨#[]⟩, .string ⟨#[]⟩, .slice none 0 0, .int .u16 0, .string ⟨y1.toArray⟩]) w' ∧ (Instr.loadAt 108 (.pointer (some ⟨b1, 0, none⟩))).run Try.prog w' = .ok (.agg (rcs s2).toArray) w')) (by kernel_rfl) ⟨atA h4e.drew 0 rfl Try.isAgg84 Try.sizeOf84 (off := 0) rfl (fun j _ ↦ by simp), atA h4e.drew 3 rfl Try.isAgg108 Try.sizeOf108 (off := 0) rfl (fun j _ ↦ by simp)⟩ (fun hS => ?_)
  refine wpAnyH_take (i := 0) (oi := { dst := some 135, op := Go.Op.load 84 (Go.Operand.tmp 5), type := 84, pos := "ref.go:123", after := #[], guard := none }) (v := ?_) rfl (by kernel_rfl) (by kernel_rfl) (by kernel_rfl) (fun _ _ _ h => h) (Or.inl ⟨by rfl, ?_⟩) hS ?_
  rotate_left
  · (intro w hSw; (try dsimp only at hSw); go_simp; (try with_reducible rfl))
  try simp only [Act.put, List.setIfInBounds_toArray, List.set_cons_zero, List.set_cons_succ]
  refine wpAnyH_take (i := 1) (oi := { dst := some 136, op := Go.Op.load 108 (Go.Operand.tmp 1), type := 108, pos := "ref.go:123", after := #[{ on := 2, ground := Go.Ground.gcOnly Go.Departure.lateStores }], guard := none }) (v := ?_) rfl (by kernel_rfl) (by kernel_rfl) (by kernel_rfl) (fun _ _ _ h => h) (Or.inl ⟨by rfl, ?_⟩) hS ?_
  rotate_left
  · (intro w hSw; (try dsimp only at hSw); go_simp; (try with_reducible rfl))
  try simp only [Act.put, List.setIfInBounds_toArray, List.set_cons_zero, List.set_cons_succ]
  refine wpAnyH_ready (rs := [2]) (by kernel_rfl) (by simp) ?_
  refine (AllReadyH.cons (o := { dst := none, op := Go.Op.store 84 (Go.Operand.tmp 2) (Go.Operand.tmp 135), type := 0, pos := "ref.go:123", after := #[{ on := 0, ground := Go.Ground.data }, { on := 0, ground := Go.Ground.phase }, { on := 1, ground := Go.Ground.textOnly Go.Departure.lateStores }], guard := none }) rfl (fun K hK => ?_) AllReadyH.nil)
  (refine step_storeW h4e.drew 2 rfl (by rfl) (by rfl) (by rfl) (xs := [.int .u8 8, .string ⟨#[]⟩, .string ⟨#[]⟩, .slice none 0 0, .int .u16 0, .string ⟨y1.toArray⟩]) (by rfl) Try.sizeOf84 rfl (by simp [Value.oneCell']) rfl ?_; intro w6 hF1)
  refine hK.out _ _ ⟨atA hF1 0 rfl Try.isAgg84 Try.sizeOf84 (off := 0) rfl (fun j _ ↦ by simp), atA hF1 3 rfl Try.isAgg108 Try.sizeOf108 (off := 0) rfl (fun j _ ↦ by simp)⟩ (fun hS => ?_)
  clear hK K
  try simp only [Act.put, List.setIfInBounds_toArray, List.set_cons_zero, List.set_cons_succ]
  refine wpAnyH_ready (rs := [3]) (by kernel_rfl) (by simp) ?_
  refine (AllReadyH.cons (o := { dst := none, op := Go.Op.store 108 (Go.Operand.tmp 3) (Go.Operand.tmp 136), type := 0, pos := "ref.go:123", after := #[{ on := 1, ground := Go.Ground.data }, { on := 2, ground := Go.Ground.chain }, { on := 0, ground := Go.Ground.phase }, { on := 1, ground := Go.Ground.phase }, { on := 2, ground := Go.Ground.phase }], guard := none }) rfl (fun K hK => ?_) AllReadyH.nil)
  (refine step_storeW hF1 1 rfl (by rfl) (by rfl) (by rfl) (xs := rcs s2) (by rfl) Try.sizeOf108 rfl (by simp [rcs, Value.oneCell']) rfl ?_; intro w7 hF2)
  refine hK.out _ _ ⟨atA hF2 0 rfl Try.isAgg84 Try.sizeOf84 (off := 0) rfl (fun j _ ↦ by simp), atA hF2 3 rfl Try.isAgg108 Try.sizeOf108 (off := 0) rfl (fun j _ ↦ by simp)⟩ (fun hS => ?_)
  clear hK K
  try simp only [Act.put, List.setIfInBounds_toArray, List.set_cons_zero, List.set_cons_succ]
  refine wpAnyH_done (by kernel_rfl) ?_ _
  all_goals
    go_wp2
    simp only [List.set_cons_zero, List.set_cons_succ] at hF2
    refine bodyPost_ret (results_cellAA rfl hF2 2 1 rfl rfl rfl rfl Try.isAgg84 Try.isAgg108 Try.sizeOf84 Try.sizeOf108 (xs := [.int .u8 8, .string ⟨#[]⟩, .string ⟨#[]⟩, .slice none 0 0, .int .u16 0, .string ⟨y1.toArray⟩]) (ys := rcs s2) rfl rfl) rfl ?_
    exact ⟨_, rfl, none, 0, by rw [Hd.out]; rfl, by rw [Hd.out]; exact (hF2.tail.tail.tail.tail).nil _ _⟩

set_option maxRecDepth 100000 in
set_option maxHeartbeats 4000000 in
attribute [-go_sem] Instr.loadAt in
theorem one_o {s : St} (hb : s.bs.length ≤ 1000000000) (hp : piecesOf (UInt8.ofNat (tkV 1 s)) = []) (h0 : ((UInt8.ofNat (tkV 1 s)).toNat : Int) ≠ 0) (h1 : ((UInt8.ofNat (tkV 1 s)).toNat : Int) ≠ 1) (h2 : ((UInt8.ofNat (tkV 1 s)).toNat : Int) ≠ 2) (h3 : ((UInt8.ofNat (tkV 1 s)).toNat : Int) ≠ 3) (h7 : ((UInt8.ofNat (tkV 1 s)).toNat : Int) ≠ 7) (h8 : ((UInt8.ofNat (tkV 1 s)).toNat : Int) ≠ 8) {l : List HProp} {w : World} (hE : Ent l w) :
    Calls Try.prog 53 #[.agg (rcs s).toArray] w (Ret fun v w' => ∃ ao c, v = .tuple #[.agg (xcells (pent s).1 ao c).toArray, .agg (rcs (pent s).2).toArray] ∧ Ent (trow ao c (pent s).1.tree :: l) w') := by
  have hd := pent_d (s := s) rfl
  have hP : pent s = (⟨UInt8.ofNat (tkV 1 s), [], [], [], 0, []⟩, tk 1 s) := by
    unfold pent
    obtain ⟨g1, g2, g3, g4, g5⟩ := pieces_none hp
    simp [g1, g2, g3, g4, g5]
  clear hp
  have hT : ∀ {l : List HProp} {w : World}, Ent l w → Calls Try.prog 61 #[.agg (rcs s).toArray, .int .i64 1] w (Ret fun v w' => v = .tuple #[.int .u64 (UInt8.ofNat (tkV 1 s)).toNat, .agg (rcs (tk 1 s)).toArray] ∧ Ent l w') := fun h => by have H := rTake_1 h (by omega : s.bs.length ≤ 1099511627776); rw [hd] at H; exact H
  have hlt := (UInt8.ofNat (tkV 1 s)).toNat_lt
  clear hd
  generalize UInt8.ofNat (tkV 1 s) = d at *
  have Hd := SL.hid hP
  clear hP
  obtain ⟨dn, hdn⟩ : ∃ n, n = d.toNat := ⟨_, rfl⟩
  rw [← hdn] at hT hlt h0 h1 h2 h3 h7 h8
  have Hdn := SL.hid hdn
  clear hdn
  have hwd : IntKind.u8.wrap (dn : Int) = dn := by
    simp only [IntKind.wrap, IntKind.bits, IntKind.signed]
    simp
    omega
  have g4 : decide ((dn : Int) < 4) = false := decide_eq_false (by omega)
  have n0 : ((dn : Int) == 0) = false := by simpa using h0
  have n2 : ((dn : Int) == 2) = false := by simpa using h2
  have n3 : ((dn : Int) == 3) = false := by simpa using h3
  have n7 : ((dn : Int) == 7) = false := by simpa using h7
  have n8 : ((dn : Int) == 8) = false := by simpa using h8
  clear h0 h1 h2 h3 h7 h8 hlt
  have L1 : (tk 1 s).bs.length ≤ 1000000000 := Nat.le_trans (tk_len 1 s) hb
  generalize tk 1 s = s1 at *
  go_enter Try.func53, Try.ntmps53
  go_wp2_with (first
    | go_skip
    | ((with_reducible (show Go.wpList _ _ _ (Go.Oper.mk _ (.box _ _) _ _ _ _ :: _) _ _)); refine wpl_box hE rfl rfl rfl ?_; clear hE; intro b1 w hA; change Ent (pt b1 (.cells (rcs s).toArray 108) :: l) w at hA)
    | ((with_reducible (show Go.wpList _ _ _ (Go.Oper.mk _ (.alloc 84) _ _ _ _ :: _) _ _)); refine wpl_alloc hA rfl rfl (by simp [go_sem]; rfl) ?_; clear hA; intro b2 w hB; simp only [Act.eval, Act.put, List.setIfInBounds_toArray, List.set_cons_zero, List.set_cons_succ, getD_lit, List.getD_cons_succ, List.getD_cons_zero, Value.cells] at hB)
    | ((with_reducible (show Go.wpList _ _ _ (Go.Oper.mk _ (.alloc 108) _ _ _ _ :: _) _ _)); refine wpl_alloc hB rfl rfl (by simp [go_sem]; rfl) ?_; clear hB; intro b3 w hC1; simp only [Act.eval, Act.put, List.setIfInBounds_toArray, List.set_cons_zero, List.set_cons_succ, getD_lit, List.getD_cons_succ, List.getD_cons_zero, Value.cells] at hC1)
    | ((with_reducible (show Go.wpList _ _ _ (Go.Oper.mk _ (.load 108 (.tmp 1)) _ _ _ _ :: _) _ _)); refine wpl_loadW hC1 2 rfl rfl rfl rfl Try.isAgg108 Try.sizeOf108 (xs := rcs s) rfl ?_)
    | (go_at_call 61; refine (hT hC1).mono ?_; clear hC1; rintro e w2 ⟨v, rfl, rfl, hC2⟩)
    | ((with_reducible (show Go.wpList _ _ _ (Go.Oper.mk _ (.store 108 (.tmp 1) _) _ _ _ _ :: _) _ _)); refine wpl_storeW hC2 2 rfl rfl rfl (xs := rcs s1) rfl rfl Try.sizeOf108 rfl (by simp [rcs, Value.oneCell']) rfl ?_; clear hC2; intro w hC3; simp only [List.set_cons_zero, List.set_cons_succ] at hC3)
    | ((with_reducible (show Go.wpList _ _ _ (Go.Oper.mk _ (.alloc 84) _ _ _ _ :: _) _ _)); refine wpl_alloc hC3 rfl rfl (by simp [go_sem]; rfl) ?_; clear hC3; intro b5 w hC4; simp only [Act.eval, Act.put, List.setIfInBounds_toArray, List.set_cons_zero, List.set_cons_succ, getD_lit, List.getD_cons_succ, List.getD_cons_zero, Value.cells] at hC4)
    | ((with_reducible (show Go.wpList _ _ _ (Go.Oper.mk _ (.store 84 (.tmp 5) _) _ _ _ _ :: _) _ _)); refine wpl_storeW hC4 0 rfl rfl rfl (xs := [.int .u8 dn, .string ⟨#[]⟩, .string ⟨#[]⟩, .slice none 0 0, .int .u16 0, .string ⟨#[]⟩]) rfl rfl Try.sizeOf84 rfl (by simp [Value.oneCell']) rfl ?_; clear hC4; intro w h; simp only [List.set_cons_zero, List.set_cons_succ] at h)
    | ((with_reducible (show Go.wpList _ _ _ (Go.Oper.mk _ (.load 5 _) _ _ _ _ :: _) _ _)); refine wpl_load1 h 0 rfl rfl rfl rfl (by simp [go_sem]) rfl ?_))
  refine wp_region_held_drew (S := (fun w' => (Instr.loadAt 84 (.pointer (some ⟨b5, 0, none⟩))).run Try.prog w' = .ok (.agg #[.int .u8 dn, .string ⟨#[]⟩, .string ⟨#[]⟩, .slice none 0 0, .int .u16 0, .string ⟨#[]⟩]) w' ∧ (Instr.loadAt 108 (.pointer (some ⟨b1, 0, none⟩))).run Try.prog w' = .ok (.agg (rcs s1).toArray) w')) (by kernel_rfl) ⟨atA h.drew 0 rfl Try.isAgg84 Try.sizeOf84 (off := 0) rfl (fun j _ ↦ by simp), atA h.drew 3 rfl Try.isAgg108 Try.sizeOf108 (off := 0) rfl (fun j _ ↦ by simp)⟩ (fun hS => ?_)
  refine wpAnyH_take (i := 0) (oi := { dst := some 135, op := Go.Op.load 84 (Go.Operand.tmp 5), type := 84, pos := "ref.go:123", after := #[], guard := none }) (v := ?_) rfl (by kernel_rfl) (by kernel_rfl) (by kernel_rfl) (fun _ _ _ h => h) (Or.inl ⟨by rfl, ?_⟩) hS ?_
  rotate_left
  · (intro w hSw; (try dsimp only at hSw); go_simp; (try with_reducible rfl))
  try simp only [Act.put, List.setIfInBounds_toArray, List.set_cons_zero, List.set_cons_succ]
  refine wpAnyH_take (i := 1) (oi := { dst := some 136, op := Go.Op.load 108 (Go.Operand.tmp 1), type := 108, pos := "ref.go:123", after := #[{ on := 2, ground := Go.Ground.gcOnly Go.Departure.lateStores }], guard := none }) (v := ?_) rfl (by kernel_rfl) (by kernel_rfl) (by kernel_rfl) (fun _ _ _ h => h) (Or.inl ⟨by rfl, ?_⟩) hS ?_
  rotate_left
  · (intro w hSw; (try dsimp only at hSw); go_simp; (try with_reducible rfl))
  try simp only [Act.put, List.setIfInBounds_toArray, List.set_cons_zero, List.set_cons_succ]
  refine wpAnyH_ready (rs := [2]) (by kernel_rfl) (by simp) ?_
  refine (AllReadyH.cons (o := { dst := none, op := Go.Op.store 84 (Go.Operand.tmp 2) (Go.Operand.tmp 135), type := 0, pos := "ref.go:123", after := #[{ on := 0, ground := Go.Ground.data }, { on := 0, ground := Go.Ground.phase }, { on := 1, ground := Go.Ground.textOnly Go.Departure.lateStores }], guard := none }) rfl (fun K hK => ?_) AllReadyH.nil)
  (refine step_storeW h.drew 2 rfl (by rfl) (by rfl) (by rfl) (xs := [.int .u8 dn, .string ⟨#[]⟩, .string ⟨#[]⟩, .slice none 0 0, .int .u16 0, .string ⟨#[]⟩]) (by rfl) Try.sizeOf84 rfl (by simp [Value.oneCell']) rfl ?_; intro w6 hF1)
  refine hK.out _ _ ⟨atA hF1 0 rfl Try.isAgg84 Try.sizeOf84 (off := 0) rfl (fun j _ ↦ by simp), atA hF1 3 rfl Try.isAgg108 Try.sizeOf108 (off := 0) rfl (fun j _ ↦ by simp)⟩ (fun hS => ?_)
  clear hK K
  try simp only [Act.put, List.setIfInBounds_toArray, List.set_cons_zero, List.set_cons_succ]
  refine wpAnyH_ready (rs := [3]) (by kernel_rfl) (by simp) ?_
  refine (AllReadyH.cons (o := { dst := none, op := Go.Op.store 108 (Go.Operand.tmp 3) (Go.Operand.tmp 136), type := 0, pos := "ref.go:123", after := #[{ on := 1, ground := Go.Ground.data }, { on := 2, ground := Go.Ground.chain }, { on := 0, ground := Go.Ground.phase }, { on := 1, ground := Go.Ground.phase }, { on := 2, ground := Go.Ground.phase }], guard := none }) rfl (fun K hK => ?_) AllReadyH.nil)
  (refine step_storeW hF1 1 rfl (by rfl) (by rfl) (by rfl) (xs := rcs s1) (by rfl) Try.sizeOf108 rfl (by simp [rcs, Value.oneCell']) rfl ?_; intro w7 hF2)
  refine hK.out _ _ ⟨atA hF2 0 rfl Try.isAgg84 Try.sizeOf84 (off := 0) rfl (fun j _ ↦ by simp), atA hF2 3 rfl Try.isAgg108 Try.sizeOf108 (off := 0) rfl (fun j _ ↦ by simp)⟩ (fun hS => ?_)
  clear hK K
  try simp only [Act.put, List.setIfInBounds_toArray, List.set_cons_zero, List.set_cons_succ]
  refine wpAnyH_done (by kernel_rfl) ?_ _
  all_goals
    go_wp2
    simp only [List.set_cons_zero, List.set_cons_succ] at hF2
    refine bodyPost_ret (results_cellAA rfl hF2 2 1 rfl rfl rfl rfl Try.isAgg84 Try.isAgg108 Try.sizeOf84 Try.sizeOf108 (xs := [.int .u8 dn, .string ⟨#[]⟩, .string ⟨#[]⟩, .slice none 0 0, .int .u16 0, .string ⟨#[]⟩]) (ys := rcs s1) rfl rfl) rfl ?_
    exact ⟨_, rfl, none, 0, by rw [Hd.out, Hdn.out]; rfl, by rw [Hd.out]; exact (hF2.tail.tail.tail.tail).nil _ _⟩

theorem one_any {s : St} (hb : s.bs.length ≤ 1000000000) {l : List HProp} {w : World} (hE : Ent l w) :
    Calls Try.prog 53 #[.agg (rcs s).toArray] w (Ret fun v w' => ∃ ao c, v = .tuple #[.agg (xcells (pent s).1 ao c).toArray, .agg (rcs (pent s).2).toArray] ∧ Ent (trow ao c (pent s).1.tree :: l) w') := by
  rcases u8cases (UInt8.ofNat (tkV 1 s)) with h | h | h | h | h | h | ⟨hp, h0, h1, h2, h3, h7, h8⟩
  · exact one_0 hb h hE
  · exact one_1 hb h hE
  · exact one_2 hb h hE
  · exact one_3 hb h hE
  · exact one_7 hb h hE
  · exact one_8 hb h hE
  · exact one_o hb hp h0 h1 h2 h3 h7 h8 hE
end Go.Proofs.Ytohdljcpaogokaa
namespace Go.Proofs.Ytohdljcpaogokaa
open Go.RowKit Go.SL

theorem info_rcall : elemInfo Try.prog 84 = some (some 6, 6, 88) := by kernel_rfl
def RTkAll (b : List UInt8) (o : Nat) (l : List HProp) (i : Value) (wr : World) : Prop :=
  ∃ (vs : List SV) (s : St) (ao : Option Addr) (c : Nat) (m : List HProp), i = .slice ao vs.length c ∧ pall ⟨b, 0⟩ = (xsOf vs ++ (pall s).1, (pall s).2) ∧ vs.length + s.bs.length ≤ b.length ∧ (∀ v ∈ vs, v.x.okb) ∧ (∀ v ∈ vs, v.known (m ++ l)) ∧
    Ent (pt o (.cells (rcs s).toArray 108) :: row 84 6 (.slice ao vs.length c) vs.length (svCells vs) :: (m ++ l)) wr

set_option maxRecDepth 100000 in
set_option maxHeartbeats 4000000 in
theorem RTakes_any {b : List UInt8} {l : List HProp} {w : World} (hE : Ent l w) (hb : b.length ≤ 1000000000) :
    Calls Try.prog 15 #[.string ⟨b.toArray⟩] w (Ret fun v w' => ∃ (vs : List SV) (ao : Option Addr) (c : Nat) (m : List HProp), v = .tuple #[.slice ao vs.length c, .int .i64 (takeE b)] ∧ xsOf vs = takeL b ∧ Ent (m ++ l) w' ∧
      Knows (m ++ l) (reads (.slice ao vs.length c) vs.length (svCells vs)) ∧ (∀ v ∈ vs, v.known (m ++ l)) ∧ ∀ v ∈ vs, v.x.okb) := by
  have hnone : Knows l (reads (.slice none 0 0) 0 (svCells [])) := fun _ _ => reads_nil 0 0 rfl _
  by_cases h4 : b.length ≤ 4000
  · have hd : decide ((4000 : Int) < (b.length : Int)) = false := decide_eq_false (by omega)
    go_enter Try.func15, Try.ntmps15
    go_wp2_with (first
      | go_skip
      | ((with_reducible (show Go.wpList _ _ _ (Go.Oper.mk _ (.alloc _) _ _ _ _ :: _) _ _)); refine wpl_alloc hE rfl rfl (by simp [go_sem]; rfl) ?_; clear hE; intro o w hE1; simp only [Act.eval, Act.put, List.setIfInBounds_toArray, List.set_cons_zero, List.set_cons_succ, getD_lit, List.getD_cons_succ, List.getD_cons_zero, Value.cells] at hE1)
      | ((with_reducible (show Go.wpList _ _ _ (Go.Oper.mk _ (.store _ _ _) _ _ _ _ :: _) _ _)); refine wpl_storeW hE1 0 rfl rfl rfl (xs := rcs ⟨b, 0⟩) rfl rfl Try.sizeOf108 rfl (by simp [rcs, Value.oneCell']) rfl ?_; clear hE1; intro w hE2; simp only [List.set_cons_zero, List.set_cons_succ] at hE2))
    simp only [Act.put, List.setIfInBounds_toArray, List.set_cons_zero, List.set_cons_succ]
    go_loopw [4] (fun i wr => RTkAll b o l i wr) (fun i _ => 4001 - lenS i)
    case atStart => exact ⟨[], ⟨b, 0⟩, none, 0, [], rfl, by simp [xsOf], by simp, by simp, by simp, ((hE2.nil 84 6).perm (List.Perm.swap _ _ _))⟩
    case round =>
      clear hE2
      obtain ⟨vs, s, ao, c, m, rfl, hall, hlen, hok, hkn, hE⟩ := hrel
      change Ent (pt o (.cells #[.string ⟨s.bs.toArray⟩, .bool (s.err != 0)] 108) :: _) _ at hE
      have Hall := SL.hid hall
      have Hok := SL.hid hok
      have Hkn := SL.hid hkn
      clear hall hok hkn
      have hsb : s.bs.length ≤ 4000 := by omega
      cases hgo : goesOn s with
      | true =>
        have hpl := pent_less hgo
        have Hpa := SL.hid (show pall s = ((pent s).1 :: (pall (pent s).2).1, (pall (pent s).2).2) by rw [pall, dif_pos hgo])
        simp only [goesOn, Bool.and_eq_true, Bool.not_eq_true', beq_iff_eq] at hgo
        have hpos : decide (0 < s.bs.length) = true := decide_eq_true (by
          have : s.bs ≠ [] := by intro e; rw [e] at hgo; simp at hgo
          have := List.length_pos_iff.2 this
          omega)
        have herr : (s.err != 0) = false := by rw [hgo.2]; rfl
        clear hgo
        have hT : ∀ {l : List HProp} {w : World}, Ent l w → Calls Try.prog 53 #[.agg (rcs s).toArray] w (Ret fun v w' => ∃ ao c, v = .tuple #[.agg (xcells (pent s).1 ao c).toArray, .agg (rcs (pent s).2).toArray] ∧ Ent (trow ao c (pent s).1.tree :: l) w') := fun h => one_any (by omega) h
        have Hpk := SL.hid (pent_okb s hsb)
        generalize pent s = q at *
        have hvl : vs.length ≤ 4000 := by omega
        go_wp2_with (first
          | go_skip
          | ((with_reducible (show Go.wpList _ _ _ (Go.Oper.mk _ (.load 9 _) _ _ _ _ :: _) _ _)); refine wpl_load1 hE 0 rfl rfl rfl rfl (by simp [go_sem]) rfl ?_)
          | ((with_reducible (show Go.wpList _ _ _ (Go.Oper.mk _ (.load 4 _) _ _ _ _ :: _) _ _)); refine wpl_load1 hE 0 rfl rfl rfl rfl (by simp [go_sem]) rfl ?_)
          | ((with_reducible (show Go.wpList _ _ _ (Go.Oper.mk _ (.load 108 (.tmp 5)) _ _ _ _ :: _) _ _)); refine wpl_loadW hE 0 rfl rfl rfl rfl Try.isAgg108 Try.sizeOf108 (xs := rcs s) rfl ?_)
          | (go_at_call 53; refine (hT hE).mono ?_; clear hE; rintro e w4 ⟨v, rfl, at_, ct, rfl, hE4⟩)
          | ((with_reducible (show Go.wpList _ _ _ (Go.Oper.mk _ (.alloc 84) _ _ _ _ :: _) _ _)); refine wpl_alloc hE4 rfl rfl (by simp [go_sem]; rfl) ?_; clear hE4; intro b6 w hE5; simp only [Act.eval, Act.put, List.setIfInBounds_toArray, List.set_cons_zero, List.set_cons_succ, getD_lit, List.getD_cons_succ, List.getD_cons_zero, Value.cells] at hE5)
          | ((with_reducible (show Go.wpList _ _ _ (Go.Oper.mk _ (.alloc 108) _ _ _ _ :: _) _ _)); refine wpl_alloc hE5 rfl rfl (by simp [go_sem]; rfl) ?_; clear hE5; intro b7 w hE6; simp only [Act.eval, Act.put, List.setIfInBounds_toArray, List.set_cons_zero, List.set_cons_succ, getD_lit, List.getD_cons_succ, List.getD_cons_zero, Value.cells] at hE6)
          | ((with_reducible (show Go.wpList _ _ _ (Go.Oper.mk _ (.store 84 _ _) _ _ _ _ :: _) _ _)); refine wpl_storeW hE6 1 rfl rfl rfl (xs := xcells q.1 at_ ct) rfl rfl Try.sizeOf84 rfl (by simp [xcells, Value.oneCell']) rfl ?_; clear hE6; intro w hE7; simp only [List.set_cons_zero, List.set_cons_succ] at hE7)
          | ((with_reducible (show Go.wpList _ _ _ (Go.Oper.mk _ (.store 108 (.tmp 7) _) _ _ _ _ :: _) _ _)); refine wpl_storeW hE7 0 rfl rfl rfl (xs := rcs q.2) rfl rfl Try.sizeOf108 rfl (by simp [rcs, Value.oneCell']) rfl ?_; clear hE7; intro w hE8; simp only [List.set_cons_zero, List.set_cons_succ] at hE8)
          | ((with_reducible (show Go.wpList _ _ _ (Go.Oper.mk _ (.load 84 _) _ _ _ _ :: _) _ _)); refine wpl_loadW hE8 1 rfl rfl rfl rfl Try.isAgg84 Try.sizeOf84 (xs := xcells q.1 at_ ct) rfl ?_)
          | ((with_reducible (show Go.wpList _ _ _ (Go.Oper.mk _ (.buildSlice _ _ _) _ _ _ _ :: _) _ _)); refine wpl_build1 hE8 rfl rfl (xs := xcells q.1 at_ ct) rfl Try.underlying22 (size := 6) (by kernel_rfl) Try.sizeOf84 (by decide) (by decide) rfl ?_; clear hE8; intro bn w5 hE9)
          | ((with_reducible (show Go.wpList _ _ _ (Go.Oper.mk _ (.call _) _ _ _ _ :: _) _ _)); refine wpl_appendG hE9 5 rfl rfl rfl rfl rfl Try.underlying22 info_rcall (by decide) (m := 1) (news := xcells q.1 at_ ct) (reads_pt hE9 0 rfl (off := 0) (fun j u hu => by simpa using hu)) rfl (by simp [xcells, Value.oneCell']) (by omega) (by omega) ?_; clear hE9; intro ao' c' w6 hE10; simp only [List.set_cons_zero, List.set_cons_succ] at hE10)
          | ((with_reducible (show Go.wpList _ _ _ (Go.Oper.mk _ (.load 108 (.tmp 7)) _ _ _ _ :: _) _ _)); refine wpl_loadW hE10 1 rfl rfl rfl rfl Try.isAgg108 Try.sizeOf108 (xs := rcs q.2) rfl ?_)
          | ((with_reducible (show Go.wpList _ _ _ (Go.Oper.mk _ (.store 108 (.tmp 5) _) _ _ _ _ :: _) _ _)); refine wpl_storeW hE10 4 rfl rfl rfl (xs := rcs q.2) rfl rfl Try.sizeOf108 rfl (by simp [rcs, Value.oneCell']) rfl ?_; clear hE10; intro w hE11; simp only [List.set_cons_zero, List.set_cons_succ] at hE11))
        simp only [Act.put, List.setIfInBounds_toArray, List.set_cons_zero, List.set_cons_succ]
        go_roundw
        case measure => simp [lenS]; omega
        case rel =>
          refine ⟨vs ++ [⟨q.1, at_, ct⟩], q.2, ao', c', trow at_ ct q.1.tree :: m, by simp, by rw [Hall.out, Hpa.out]; simp [xsOf], by simp; omega, ?_, ?_, ?_⟩
          · intro v hv
            simp only [List.mem_append, List.mem_singleton] at hv
            rcases hv with hv | rfl
            · exact Hok.out v hv
            · exact Hpk.out
          · intro v hv
            simp only [List.mem_append, List.mem_singleton] at hv
            rcases hv with hv | rfl
            · exact (Hkn.out v hv).cons
            · exact fun w h => reads_row h 0 rfl
          · have e1 : svCells (vs ++ [⟨q.1, at_, ct⟩]) = svCells vs ++ xcells q.1 at_ ct := by simp [svCells, SV.cells]
            have e2 : (vs ++ [(⟨q.1, at_, ct⟩ : SV)]).length = vs.length + 1 := by simp
            rw [e1, e2]
            have hF := hE11.tail.tail.tail
            exact hF.perm ((List.Perm.swap _ _ _).trans ((List.Perm.swap _ _ _).cons _))
      | false =>
        have hpa : pall s = ([], s) := by rw [pall, dif_neg (by simp [hgo])]
        have hvl : vs.length ≤ 4000 := by omega
        have hp := Hall.out
        rw [hpa, List.append_nil] at hp
        have hts : takeS b = if s.err == 0 && ((xsOf vs).all mayE && (allB (xsOf vs) == b)) then some (xsOf vs) else none := by rw [takeS, hp]
        clear hpa hp
        have hPut : ∀ {w : World}, Ent (pt o (.cells #[.string ⟨s.bs.toArray⟩, .bool (s.err != 0)] 108) :: row 84 6 (.slice ao vs.length c) vs.length (svCells vs) :: (m ++ l)) w → Calls Try.prog 13 #[.slice ao vs.length c] w (Ret fun v w' => v = .tuple #[.string ⟨(putS (xsOf vs)).toArray⟩, .int .i64 (putSE (xsOf vs))] ∧
            Ent (pt o (.cells #[.string ⟨s.bs.toArray⟩, .bool (s.err != 0)] 108) :: row 84 6 (.slice ao vs.length c) vs.length (svCells vs) :: (m ++ l)) w') := fun h => RPuts_any h (by omega) (fun v hv => (Hok.out v hv).1) (fun w h => reads_row h 1 rfl) (fun v hv => (Hkn.out v hv).cons.cons)
        by_cases herr : s.err = 0
        · have hpos : decide (0 < s.bs.length) = false := decide_eq_false (by
            simp only [goesOn, herr] at hgo
            have : s.bs = [] := by simpa using hgo
            rw [this]; simp)
          have he0 : (s.err != 0) = false := by rw [herr]; rfl
          clear hgo
          have Hts := SL.hid (show takeS b = if (xsOf vs).all mayE && (allB (xsOf vs) == b) then some (xsOf vs) else none by rw [hts, herr]; rfl)
          clear hts herr
          by_cases hall : (xsOf vs).all mayE = true ∧ allB (xsOf vs) = b
          · obtain ⟨ha, hb2⟩ := hall
            have h1 : putS (xsOf vs) = b := by rw [← hb2, putS, ha, hb2, decide_eq_true h4]; rfl
            have h2 : putSE (xsOf vs) = 0 := by rw [putSE, if_pos ha, hb2, if_pos h4]
            have R := SL.hid (show takeL b = xsOf vs ∧ takeE b = 0 by
              have : takeS b = some (xsOf vs) := by rw [Hts.out, ha, hb2]; simp
              simp [takeL, takeE, h4, this])
            rw [h1, h2] at hPut
            clear ha hb2 h1 h2
            go_wp2_with (first
              | go_skip
              | ((with_reducible (show Go.wpList _ _ _ (Go.Oper.mk _ (.load 9 _) _ _ _ _ :: _) _ _)); refine wpl_load1 hE 0 rfl rfl rfl rfl (by simp [go_sem]) rfl ?_)
              | ((with_reducible (show Go.wpList _ _ _ (Go.Oper.mk _ (.load 4 _) _ _ _ _ :: _) _ _)); refine wpl_load1 hE 0 rfl rfl rfl rfl (by simp [go_sem]) rfl ?_)
              | (go_at_call 13; refine (hPut hE).mono ?_; clear hE; rintro e w5 ⟨v, rfl, rfl, hE⟩))
            go_ret2
            exact ⟨_, rfl, vs, ao, c, row 84 6 (.slice ao vs.length c) vs.length (svCells vs) :: m, by rw [R.out.2]; rfl, R.out.1.symm, hE.tail, fun w h => reads_row h 0 rfl, fun v hv => (Hkn.out v hv).cons, Hok.out⟩
          · have R := SL.hid (show takeL b = [] ∧ takeE b = 3 by
              have : takeS b = none := by rw [Hts.out, if_neg (by simpa using hall)]
              simp [takeL, takeE, h4, this])
            have hcase : (putSE (xsOf vs) ≠ 0) ∨ (putSE (xsOf vs) = 0 ∧ (putS (xsOf vs) == b) = false) := by
              by_cases h0 : putSE (xsOf vs) = 0
              · refine .inr ⟨h0, ?_⟩
                by_cases ha : (xsOf vs).all mayE = true
                · rw [putSE, if_pos ha] at h0
                  split at h0
                  · rename_i hle
                    rw [putS, ha, decide_eq_true hle]
                    simp only [Bool.and_self, if_true, beq_eq_false_iff_ne]
                    exact fun e => hall ⟨ha, e⟩
                  · simp at h0
                · rw [putSE, if_neg ha] at h0
                  simp at h0
              · exact .inl h0
            generalize putSE (xsOf vs) = pe at *
            generalize putS (xsOf vs) = pb at *
            clear hall
            rcases hcase with h0 | ⟨h0, h1⟩
            · have h0' : (pe != 0) = true := by simpa using h0
              clear h0
              go_wp2_with (first
                | go_skip
                | ((with_reducible (show Go.wpList _ _ _ (Go.Oper.mk _ (.load 9 _) _ _ _ _ :: _) _ _)); refine wpl_load1 hE 0 rfl rfl rfl rfl (by simp [go_sem]) rfl ?_)
                | ((with_reducible (show Go.wpList _ _ _ (Go.Oper.mk _ (.load 4 _) _ _ _ _ :: _) _ _)); refine wpl_load1 hE 0 rfl rfl rfl rfl (by simp [go_sem]) rfl ?_)
                | (go_at_call 13; refine (hPut hE).mono ?_; clear hE; rintro e w5 ⟨v, rfl, rfl, hE⟩))
              go_ret2
              exact ⟨_, rfl, [], none, 0, [], by rw [R.out.2]; rfl, by rw [R.out.1]; rfl, hE.tail.tail.drop, hnone, by simp, by simp⟩
            · have h1' : (pb != b) = true := by rw [bne, h1]; rfl
              rw [h0] at hPut
              clear h0
              go_wp2_with (first
                | go_skip
                | ((with_reducible (show Go.wpList _ _ _ (Go.Oper.mk _ (.load 9 _) _ _ _ _ :: _) _ _)); refine wpl_load1 hE 0 rfl rfl rfl rfl (by simp [go_sem]) rfl ?_)
                | ((with_reducible (show Go.wpList _ _ _ (Go.Oper.mk _ (.load 4 _) _ _ _ _ :: _) _ _)); refine wpl_load1 hE 0 rfl rfl rfl rfl (by simp [go_sem]) rfl ?_)
                | (go_at_call 13; refine (hPut hE).mono ?_; clear hE; rintro e w5 ⟨v, rfl, rfl, hE⟩))
              go_ret2
              exact ⟨_, rfl, [], none, 0, [], by rw [R.out.2]; rfl, by rw [R.out.1]; rfl, hE.tail.tail.drop, hnone, by simp, by simp⟩
        · have R := SL.hid (show takeL b = [] ∧ takeE b = 3 by
            have : takeS b = none := by rw [hts]; simp [herr]
            simp [takeL, takeE, h4, this])
          clear hts
          have he2 : (s.err != 0) = true := by simpa using herr
          clear herr hgo
          cases hpos : decide (0 < s.bs.length)
          all_goals
            go_wp2_with (first
              | go_skip
              | ((with_reducible (show Go.wpList _ _ _ (Go.Oper.mk _ (.load 9 _) _ _ _ _ :: _) _ _)); refine wpl_load1 hE 0 rfl rfl rfl rfl (by simp [go_sem]) rfl ?_)
              | ((with_reducible (show Go.wpList _ _ _ (Go.Oper.mk _ (.load 4 _) _ _ _ _ :: _) _ _)); refine wpl_load1 hE 0 rfl rfl rfl rfl (by simp [go_sem]) rfl ?_)
              | (go_at_call 13; refine (hPut hE).mono ?_; clear hE; rintro e w5 ⟨v, rfl, rfl, hE⟩))
            go_ret2
            exact ⟨_, rfl, [], none, 0, [], by rw [R.out.2]; rfl, by rw [R.out.1]; rfl, hE.tail.tail.drop, hnone, by simp, by simp⟩
  · have hd : ((4000 : Int) < (b.length : Int)) := by omega
    have H1 := SL.hid (show takeL b = [] ∧ takeE b = 6 by simp [takeL, takeE, h4])
    go_enter Try.func15, Try.ntmps15
    go_wp2
    go_ret2
    exact ⟨_, rfl, [], none, 0, [], by rw [H1.out.2]; rfl, by rw [H1.out.1]; rfl, hE, hnone, by simp, by simp⟩
end Go.Proofs.Ytohdljcpaogokaa
