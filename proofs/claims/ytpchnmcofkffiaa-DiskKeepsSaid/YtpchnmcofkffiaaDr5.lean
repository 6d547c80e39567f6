/-
  The document's disk: a read, a new one.
-/
import Derived.Test.YtpchnmcofkffiaaDr3
import Derived.Deep.RegionLaw
namespace Go.Proofs.Ytpchnmcofkffiaa
open Go.RowKit Go.SL

theorem rRead_dead {F R : List HProp} {w : World} {s : DS} {xs : List Value} {k : Int} (hd : s.dead = true) (hx : refIs R xs s) (hE : Ent (F ++ R) w) :
    Calls Try.prog 84 #[.agg xs.toArray, .int .i64 k] w (Ret fun v w' => v = .tuple #[.string ⟨#[]⟩, .int .i64 4] ∧ Ent (F ++ R) w') := by
  obtain ⟨ao, c, aw, d, rfl, h1, h2⟩ := hx
  clear h1 h2
  unfold rcells
  rw [hd]
  clear hd
  go_enter Try.func84, Try.ntmps84
  go_wp2_with (first
    | go_skip
    | (refine wpl_box hE rfl rfl rfl ?_; clear hE; intro bd w hE; simp only [Act.eval, Act.put, List.setIfInBounds_toArray, List.set_cons_zero, List.set_cons_succ, getD_lit, List.getD_cons_succ, List.getD_cons_zero, Value.cells] at hE)
    | (first | (refine wpl_load1 hE 0 rfl rfl rfl rfl (by simp [go_sem]) rfl ?_) | (refine wpl_load1 hE 1 rfl rfl rfl rfl (by simp [go_sem]) rfl ?_) | (refine wpl_load1 hE 2 rfl rfl rfl rfl (by simp [go_sem]) rfl ?_) | (refine wpl_load1 hE 3 rfl rfl rfl rfl (by simp [go_sem]) rfl ?_) | (refine wpl_load1 hE 4 rfl rfl rfl rfl (by simp [go_sem]) rfl ?_) | (refine wpl_load1 hE 5 rfl rfl rfl rfl (by simp [go_sem]) rfl ?_)) | (first | (refine wpl_store hE 0 rfl rfl rfl rfl rfl (by simp [go_sem]; rfl) (by rfl) (by simp [Value.cells, Value.oneCell', Act.eval]) (by simp) ?_; clear hE; intro w hE; simp only [Act.eval, getD_lit, List.getD_cons_succ, List.getD_cons_zero, Value.cells, List.set_cons_zero, List.set_cons_succ, List.take_succ_cons, List.take_zero, List.nil_append, List.cons_append, List.drop_succ_cons, List.drop_zero, List.length_cons, List.length_nil, Nat.reduceAdd, Nat.zero_add] at hE) | (refine wpl_store hE 1 rfl rfl rfl rfl rfl (by simp [go_sem]; rfl) (by rfl) (by simp [Value.cells, Value.oneCell', Act.eval]) (by simp) ?_; clear hE; intro w hE; simp only [Act.eval, getD_lit, List.getD_cons_succ, List.getD_cons_zero, Value.cells, List.set_cons_zero, List.set_cons_succ, List.take_succ_cons, List.take_zero, List.nil_append, List.cons_append, List.drop_succ_cons, List.drop_zero, List.length_cons, List.length_nil, Nat.reduceAdd, Nat.zero_add] at hE) | (refine wpl_store hE 2 rfl rfl rfl rfl rfl (by simp [go_sem]; rfl) (by rfl) (by simp [Value.cells, Value.oneCell', Act.eval]) (by simp) ?_; clear hE; intro w hE; simp only [Act.eval, getD_lit, List.getD_cons_succ, List.getD_cons_zero, Value.cells, List.set_cons_zero, List.set_cons_succ, List.take_succ_cons, List.take_zero, List.nil_append, List.cons_append, List.drop_succ_cons, List.drop_zero, List.length_cons, List.length_nil, Nat.reduceAdd, Nat.zero_add] at hE) | (refine wpl_store hE 3 rfl rfl rfl rfl rfl (by simp [go_sem]; rfl) (by rfl) (by simp [Value.cells, Value.oneCell', Act.eval]) (by simp) ?_; clear hE; intro w hE; simp only [Act.eval, getD_lit, List.getD_cons_succ, List.getD_cons_zero, Value.cells, List.set_cons_zero, List.set_cons_succ, List.take_succ_cons, List.take_zero, List.nil_append, List.cons_append, List.drop_succ_cons, List.drop_zero, List.length_cons, List.length_nil, Nat.reduceAdd, Nat.zero_add] at hE) | (refine wpl_store hE 4 rfl rfl rfl rfl rfl (by simp [go_sem]; rfl) (by rfl) (by simp [Value.cells, Value.oneCell', Act.eval]) (by simp) ?_; clear hE; intro w hE; simp only [Act.eval, getD_lit, List.getD_cons_succ, List.getD_cons_zero, Value.cells, List.set_cons_zero, List.set_cons_succ, List.take_succ_cons, List.take_zero, List.nil_append, List.cons_append, List.drop_succ_cons, List.drop_zero, List.length_cons, List.length_nil, Nat.reduceAdd, Nat.zero_add] at hE) | (refine wpl_store hE 5 rfl rfl rfl rfl rfl (by simp [go_sem]; rfl) (by rfl) (by simp [Value.cells, Value.oneCell', Act.eval]) (by simp) ?_; clear hE; intro w hE; simp only [Act.eval, getD_lit, List.getD_cons_succ, List.getD_cons_zero, Value.cells, List.set_cons_zero, List.set_cons_succ, List.take_succ_cons, List.take_zero, List.nil_append, List.cons_append, List.drop_succ_cons, List.drop_zero, List.length_cons, List.length_nil, Nat.reduceAdd, Nat.zero_add] at hE)))
  go_ret2
  exact ⟨_, rfl, rfl, hE.tail⟩

theorem rRead_bad1 {F R : List HProp} {w : World} {s : DS} {xs : List Value} {k : Int} (hd : s.dead = false) (hk : k < 0) (hx : refIs R xs s) (hE : Ent (F ++ R) w) :
    Calls Try.prog 84 #[.agg xs.toArray, .int .i64 k] w (Ret fun v w' => v = .tuple #[.string ⟨#[]⟩, .int .i64 2] ∧ Ent (F ++ R) w') := by
  obtain ⟨ao, c, aw, d, rfl, h1, h2⟩ := hx
  clear h1 h2
  unfold rcells
  rw [hd]
  clear hd
  go_enter Try.func84, Try.ntmps84
  go_wp2_with (first
    | go_skip
    | (refine wpl_box hE rfl rfl rfl ?_; clear hE; intro bd w hE; simp only [Act.eval, Act.put, List.setIfInBounds_toArray, List.set_cons_zero, List.set_cons_succ, getD_lit, List.getD_cons_succ, List.getD_cons_zero, Value.cells] at hE)
    | (first | (refine wpl_load1 hE 0 rfl rfl rfl rfl (by simp [go_sem]) rfl ?_) | (refine wpl_load1 hE 1 rfl rfl rfl rfl (by simp [go_sem]) rfl ?_) | (refine wpl_load1 hE 2 rfl rfl rfl rfl (by simp [go_sem]) rfl ?_) | (refine wpl_load1 hE 3 rfl rfl rfl rfl (by simp [go_sem]) rfl ?_) | (refine wpl_load1 hE 4 rfl rfl rfl rfl (by simp [go_sem]) rfl ?_) | (refine wpl_load1 hE 5 rfl rfl rfl rfl (by simp [go_sem]) rfl ?_)) | (first | (refine wpl_store hE 0 rfl rfl rfl rfl rfl (by simp [go_sem]; rfl) (by rfl) (by simp [Value.cells, Value.oneCell', Act.eval]) (by simp) ?_; clear hE; intro w hE; simp only [Act.eval, getD_lit, List.getD_cons_succ, List.getD_cons_zero, Value.cells, List.set_cons_zero, List.set_cons_succ, List.take_succ_cons, List.take_zero, List.nil_append, List.cons_append, List.drop_succ_cons, List.drop_zero, List.length_cons, List.length_nil, Nat.reduceAdd, Nat.zero_add] at hE) | (refine wpl_store hE 1 rfl rfl rfl rfl rfl (by simp [go_sem]; rfl) (by rfl) (by simp [Value.cells, Value.oneCell', Act.eval]) (by simp) ?_; clear hE; intro w hE; simp only [Act.eval, getD_lit, List.getD_cons_succ, List.getD_cons_zero, Value.cells, List.set_cons_zero, List.set_cons_succ, List.take_succ_cons, List.take_zero, List.nil_append, List.cons_append, List.drop_succ_cons, List.drop_zero, List.length_cons, List.length_nil, Nat.reduceAdd, Nat.zero_add] at hE) | (refine wpl_store hE 2 rfl rfl rfl rfl rfl (by simp [go_sem]; rfl) (by rfl) (by simp [Value.cells, Value.oneCell', Act.eval]) (by simp) ?_; clear hE; intro w hE; simp only [Act.eval, getD_lit, List.getD_cons_succ, List.getD_cons_zero, Value.cells, List.set_cons_zero, List.set_cons_succ, List.take_succ_cons, List.take_zero, List.nil_append, List.cons_append, List.drop_succ_cons, List.drop_zero, List.length_cons, List.length_nil, Nat.reduceAdd, Nat.zero_add] at hE) | (refine wpl_store hE 3 rfl rfl rfl rfl rfl (by simp [go_sem]; rfl) (by rfl) (by simp [Value.cells, Value.oneCell', Act.eval]) (by simp) ?_; clear hE; intro w hE; simp only [Act.eval, getD_lit, List.getD_cons_succ, List.getD_cons_zero, Value.cells, List.set_cons_zero, List.set_cons_succ, List.take_succ_cons, List.take_zero, List.nil_append, List.cons_append, List.drop_succ_cons, List.drop_zero, List.length_cons, List.length_nil, Nat.reduceAdd, Nat.zero_add] at hE) | (refine wpl_store hE 4 rfl rfl rfl rfl rfl (by simp [go_sem]; rfl) (by rfl) (by simp [Value.cells, Value.oneCell', Act.eval]) (by simp) ?_; clear hE; intro w hE; simp only [Act.eval, getD_lit, List.getD_cons_succ, List.getD_cons_zero, Value.cells, List.set_cons_zero, List.set_cons_succ, List.take_succ_cons, List.take_zero, List.nil_append, List.cons_append, List.drop_succ_cons, List.drop_zero, List.length_cons, List.length_nil, Nat.reduceAdd, Nat.zero_add] at hE) | (refine wpl_store hE 5 rfl rfl rfl rfl rfl (by simp [go_sem]; rfl) (by rfl) (by simp [Value.cells, Value.oneCell', Act.eval]) (by simp) ?_; clear hE; intro w hE; simp only [Act.eval, getD_lit, List.getD_cons_succ, List.getD_cons_zero, Value.cells, List.set_cons_zero, List.set_cons_succ, List.take_succ_cons, List.take_zero, List.nil_append, List.cons_append, List.drop_succ_cons, List.drop_zero, List.length_cons, List.length_nil, Nat.reduceAdd, Nat.zero_add] at hE)))
  go_ret2
  exact ⟨_, rfl, rfl, hE.tail⟩
theorem rRead_bad2 {F R : List HProp} {w : World} {s : DS} {xs : List Value} {k : Nat} (hd : s.dead = false) (hk : s.on.length ≤ k) (hx : refIs R xs s) (hE : Ent (F ++ R) w) :
    Calls Try.prog 84 #[.agg xs.toArray, .int .i64 k] w (Ret fun v w' => v = .tuple #[.string ⟨#[]⟩, .int .i64 2] ∧ Ent (F ++ R) w') := by
  obtain ⟨ao, c, aw, d, rfl, h1, h2⟩ := hx
  clear h1 h2
  unfold rcells
  rw [hd]
  clear hd
  go_enter Try.func84, Try.ntmps84
  go_wp2_with (first
    | go_skip
    | (refine wpl_box hE rfl rfl rfl ?_; clear hE; intro bd w hE; simp only [Act.eval, Act.put, List.setIfInBounds_toArray, List.set_cons_zero, List.set_cons_succ, getD_lit, List.getD_cons_succ, List.getD_cons_zero, Value.cells] at hE)
    | (first | (refine wpl_load1 hE 0 rfl rfl rfl rfl (by simp [go_sem]) rfl ?_) | (refine wpl_load1 hE 1 rfl rfl rfl rfl (by simp [go_sem]) rfl ?_) | (refine wpl_load1 hE 2 rfl rfl rfl rfl (by simp [go_sem]) rfl ?_) | (refine wpl_load1 hE 3 rfl rfl rfl rfl (by simp [go_sem]) rfl ?_) | (refine wpl_load1 hE 4 rfl rfl rfl rfl (by simp [go_sem]) rfl ?_) | (refine wpl_load1 hE 5 rfl rfl rfl rfl (by simp [go_sem]) rfl ?_)) | (first | (refine wpl_store hE 0 rfl rfl rfl rfl rfl (by simp [go_sem]; rfl) (by rfl) (by simp [Value.cells, Value.oneCell', Act.eval]) (by simp) ?_; clear hE; intro w hE; simp only [Act.eval, getD_lit, List.getD_cons_succ, List.getD_cons_zero, Value.cells, List.set_cons_zero, List.set_cons_succ, List.take_succ_cons, List.take_zero, List.nil_append, List.cons_append, List.drop_succ_cons, List.drop_zero, List.length_cons, List.length_nil, Nat.reduceAdd, Nat.zero_add] at hE) | (refine wpl_store hE 1 rfl rfl rfl rfl rfl (by simp [go_sem]; rfl) (by rfl) (by simp [Value.cells, Value.oneCell', Act.eval]) (by simp) ?_; clear hE; intro w hE; simp only [Act.eval, getD_lit, List.getD_cons_succ, List.getD_cons_zero, Value.cells, List.set_cons_zero, List.set_cons_succ, List.take_succ_cons, List.take_zero, List.nil_append, List.cons_append, List.drop_succ_cons, List.drop_zero, List.length_cons, List.length_nil, Nat.reduceAdd, Nat.zero_add] at hE) | (refine wpl_store hE 2 rfl rfl rfl rfl rfl (by simp [go_sem]; rfl) (by rfl) (by simp [Value.cells, Value.oneCell', Act.eval]) (by simp) ?_; clear hE; intro w hE; simp only [Act.eval, getD_lit, List.getD_cons_succ, List.getD_cons_zero, Value.cells, List.set_cons_zero, List.set_cons_succ, List.take_succ_cons, List.take_zero, List.nil_append, List.cons_append, List.drop_succ_cons, List.drop_zero, List.length_cons, List.length_nil, Nat.reduceAdd, Nat.zero_add] at hE) | (refine wpl_store hE 3 rfl rfl rfl rfl rfl (by simp [go_sem]; rfl) (by rfl) (by simp [Value.cells, Value.oneCell', Act.eval]) (by simp) ?_; clear hE; intro w hE; simp only [Act.eval, getD_lit, List.getD_cons_succ, List.getD_cons_zero, Value.cells, List.set_cons_zero, List.set_cons_succ, List.take_succ_cons, List.take_zero, List.nil_append, List.cons_append, List.drop_succ_cons, List.drop_zero, List.length_cons, List.length_nil, Nat.reduceAdd, Nat.zero_add] at hE) | (refine wpl_store hE 4 rfl rfl rfl rfl rfl (by simp [go_sem]; rfl) (by rfl) (by simp [Value.cells, Value.oneCell', Act.eval]) (by simp) ?_; clear hE; intro w hE; simp only [Act.eval, getD_lit, List.getD_cons_succ, List.getD_cons_zero, Value.cells, List.set_cons_zero, List.set_cons_succ, List.take_succ_cons, List.take_zero, List.nil_append, List.cons_append, List.drop_succ_cons, List.drop_zero, List.length_cons, List.length_nil, Nat.reduceAdd, Nat.zero_add] at hE) | (refine wpl_store hE 5 rfl rfl rfl rfl rfl (by simp [go_sem]; rfl) (by rfl) (by simp [Value.cells, Value.oneCell', Act.eval]) (by simp) ?_; clear hE; intro w hE; simp only [Act.eval, getD_lit, List.getD_cons_succ, List.getD_cons_zero, Value.cells, List.set_cons_zero, List.set_cons_succ, List.take_succ_cons, List.take_zero, List.nil_append, List.cons_append, List.drop_succ_cons, List.drop_zero, List.length_cons, List.length_nil, Nat.reduceAdd, Nat.zero_add] at hE)))
  go_ret2
  exact ⟨_, rfl, rfl, hE.tail⟩

def RrRel (s : DS) (d0 : List UInt8) (k bd : Nat) (ao aw : Option Addr) (c d : Nat) (F R : List HProp) (i sv : Value) (wr : World) : Prop :=
  ∃ j : Nat, j ≤ s.wait.length ∧ i = .int .i64 j ∧ sv = .string ⟨(lastOf (s.wait.take j) k d0).toArray⟩ ∧
    Ent (pt bd (.cells #[.slice ao s.on.length c, .slice aw s.wait.length d, .bool false, .int .i64 s.left, .string s.keep, .int .u64 s.acts] 71) :: (F ++ R)) wr

set_option maxRecDepth 100000 in
set_option maxHeartbeats 1000000 in
theorem rRead_in {F R : List HProp} {w : World} {s : DS} {xs : List Value} {k : Nat} (hw : s.wait.length ≤ 1000000) (hd : s.dead = false) (hk : k < s.on.length) (hx : refIs R xs s) (hE : Ent (F ++ R) w) :
    Calls Try.prog 84 #[.agg xs.toArray, .int .i64 k] w (Ret fun v w' => v = .tuple #[.string ⟨(s.readAt k).toArray⟩, .int .i64 0] ∧ Ent (F ++ R) w') := by
  obtain ⟨ao, c, aw, d, rfl, h1, h2⟩ := hx
  have H2 := SL.hid h2
  obtain ⟨b, off, rfl, hc⟩ := reads_form (h1 _ hE.drop) (by omega) (by simp; omega)
  have H1 := SL.hid h1
  clear h1 h2 hc
  have hon : (s.on.map strv)[k]? = some (.string ⟨(s.on.getD k []).toArray⟩) := by simp [strv, List.getD_eq_getElem?_getD, hk]
  have hra : s.readAt k = lastOf s.wait k (s.on.getD k []) := rfl
  rw [hra]
  generalize s.on.getD k [] = d0 at *
  have Hon := SL.hid hon
  clear hon hra
  unfold rcells
  rw [hd]
  clear hd
  go_enter Try.func84, Try.ntmps84
  go_wp2_with (first
    | go_skip
    | (refine wpl_box hE rfl rfl rfl ?_; clear hE; intro bd w1 hE; simp only [Act.eval, Act.put, List.setIfInBounds_toArray, List.set_cons_zero, List.set_cons_succ, getD_lit, List.getD_cons_succ, List.getD_cons_zero, Value.cells] at hE; obtain ⟨_, _, hv, _, hc⟩ := H1.out _ hE.tail.drop; cases hv; have c1 := hc _ rfl _ _ Hon.out; rw [Addr.add_lit] at c1; clear hc)
    | (first | (refine wpl_load1 hE 0 rfl rfl rfl rfl (by simp [go_sem]) rfl ?_) | (refine wpl_load1 hE 1 rfl rfl rfl rfl (by simp [go_sem]) rfl ?_) | (refine wpl_load1 hE 2 rfl rfl rfl rfl (by simp [go_sem]) rfl ?_) | (refine wpl_load1 hE 3 rfl rfl rfl rfl (by simp [go_sem]) rfl ?_) | (refine wpl_load1 hE 4 rfl rfl rfl rfl (by simp [go_sem]) rfl ?_) | (refine wpl_load1 hE 5 rfl rfl rfl rfl (by simp [go_sem]) rfl ?_)) | (first | (refine wpl_store hE 0 rfl rfl rfl rfl rfl (by simp [go_sem]; rfl) (by rfl) (by simp [Value.cells, Value.oneCell', Act.eval]) (by simp) ?_; clear hE; intro w hE; simp only [Act.eval, getD_lit, List.getD_cons_succ, List.getD_cons_zero, Value.cells, List.set_cons_zero, List.set_cons_succ, List.take_succ_cons, List.take_zero, List.nil_append, List.cons_append, List.drop_succ_cons, List.drop_zero, List.length_cons, List.length_nil, Nat.reduceAdd, Nat.zero_add] at hE) | (refine wpl_store hE 1 rfl rfl rfl rfl rfl (by simp [go_sem]; rfl) (by rfl) (by simp [Value.cells, Value.oneCell', Act.eval]) (by simp) ?_; clear hE; intro w hE; simp only [Act.eval, getD_lit, List.getD_cons_succ, List.getD_cons_zero, Value.cells, List.set_cons_zero, List.set_cons_succ, List.take_succ_cons, List.take_zero, List.nil_append, List.cons_append, List.drop_succ_cons, List.drop_zero, List.length_cons, List.length_nil, Nat.reduceAdd, Nat.zero_add] at hE) | (refine wpl_store hE 2 rfl rfl rfl rfl rfl (by simp [go_sem]; rfl) (by rfl) (by simp [Value.cells, Value.oneCell', Act.eval]) (by simp) ?_; clear hE; intro w hE; simp only [Act.eval, getD_lit, List.getD_cons_succ, List.getD_cons_zero, Value.cells, List.set_cons_zero, List.set_cons_succ, List.take_succ_cons, List.take_zero, List.nil_append, List.cons_append, List.drop_succ_cons, List.drop_zero, List.length_cons, List.length_nil, Nat.reduceAdd, Nat.zero_add] at hE) | (refine wpl_store hE 3 rfl rfl rfl rfl rfl (by simp [go_sem]; rfl) (by rfl) (by simp [Value.cells, Value.oneCell', Act.eval]) (by simp) ?_; clear hE; intro w hE; simp only [Act.eval, getD_lit, List.getD_cons_succ, List.getD_cons_zero, Value.cells, List.set_cons_zero, List.set_cons_succ, List.take_succ_cons, List.take_zero, List.nil_append, List.cons_append, List.drop_succ_cons, List.drop_zero, List.length_cons, List.length_nil, Nat.reduceAdd, Nat.zero_add] at hE) | (refine wpl_store hE 4 rfl rfl rfl rfl rfl (by simp [go_sem]; rfl) (by rfl) (by simp [Value.cells, Value.oneCell', Act.eval]) (by simp) ?_; clear hE; intro w hE; simp only [Act.eval, getD_lit, List.getD_cons_succ, List.getD_cons_zero, Value.cells, List.set_cons_zero, List.set_cons_succ, List.take_succ_cons, List.take_zero, List.nil_append, List.cons_append, List.drop_succ_cons, List.drop_zero, List.length_cons, List.length_nil, Nat.reduceAdd, Nat.zero_add] at hE) | (refine wpl_store hE 5 rfl rfl rfl rfl rfl (by simp [go_sem]; rfl) (by rfl) (by simp [Value.cells, Value.oneCell', Act.eval]) (by simp) ?_; clear hE; intro w hE; simp only [Act.eval, getD_lit, List.getD_cons_succ, List.getD_cons_zero, Value.cells, List.set_cons_zero, List.set_cons_succ, List.take_succ_cons, List.take_zero, List.nil_append, List.cons_append, List.drop_succ_cons, List.drop_zero, List.length_cons, List.length_nil, Nat.reduceAdd, Nat.zero_add] at hE)))
  clear c1 H1 Hon
  go_loopw [7, 6] (fun i sv wr => RrRel s d0 k bd (some ⟨b, off, none⟩) aw c d F R i sv wr) (fun i _ _ => s.wait.length - (intOf i).toNat)
  case atStart => exact ⟨0, Nat.zero_le _, rfl, rfl, hE⟩
  case round =>
    clear hE
    obtain ⟨j, hj, rfl, rfl, hE⟩ := hrel
    by_cases hlt : j < s.wait.length
    · obtain ⟨b2, off2, rfl, hc⟩ := reads_form (H2.out _ hE.tail.drop) (by omega) (by rw [rw2_len]; omega)
      have c1 := hc _ _ (flatMap_at rw2 2 (fun _ => rfl) s.wait j 0 _ (.int .i64 ((s.wait[j]).at_ : Nat)) (List.getElem?_eq_getElem hlt) rfl)
      have c2 := hc _ _ (flatMap_at rw2 2 (fun _ => rfl) s.wait j 1 _ (strv (s.wait[j]).b) (List.getElem?_eq_getElem hlt) rfl)
      clear hc
      unfold strv at c2
      rw [Nat.add_zero] at c1
      rw [← Nat.add_assoc] at c2
      have Htake := SL.hid (show lastOf (s.wait.take (j + 1)) k d0 = if (s.wait[j]).at_ = k then (s.wait[j]).b else lastOf (s.wait.take j) k d0 by
        rw [List.take_succ_eq_append_getElem hlt, lastOf_snoc])
      generalize s.wait[j] = x at *
      cases heq : ((x.at_ : Int) == (k : Int)) with
      | true =>
        have Hk := SL.hid (show x.at_ = k by have := beq_iff_eq.1 heq; omega)
        go_wp2_with (first | go_skip | (first | (refine wpl_load1 hE 0 rfl rfl rfl rfl (by simp [go_sem]) rfl ?_) | (refine wpl_load1 hE 1 rfl rfl rfl rfl (by simp [go_sem]) rfl ?_) | (refine wpl_load1 hE 2 rfl rfl rfl rfl (by simp [go_sem]) rfl ?_) | (refine wpl_load1 hE 3 rfl rfl rfl rfl (by simp [go_sem]) rfl ?_) | (refine wpl_load1 hE 4 rfl rfl rfl rfl (by simp [go_sem]) rfl ?_) | (refine wpl_load1 hE 5 rfl rfl rfl rfl (by simp [go_sem]) rfl ?_)))
        go_roundw
        case rel => exact ⟨j + 1, hlt, by simp, by rw [Htake.out, if_pos Hk.out], hE⟩
        case measure => simp [intOf]; omega
      | false =>
        have Hk := SL.hid (show x.at_ ≠ k by have := beq_eq_false_iff_ne.1 heq; omega)
        go_wp2_with (first | go_skip | (first | (refine wpl_load1 hE 0 rfl rfl rfl rfl (by simp [go_sem]) rfl ?_) | (refine wpl_load1 hE 1 rfl rfl rfl rfl (by simp [go_sem]) rfl ?_) | (refine wpl_load1 hE 2 rfl rfl rfl rfl (by simp [go_sem]) rfl ?_) | (refine wpl_load1 hE 3 rfl rfl rfl rfl (by simp [go_sem]) rfl ?_) | (refine wpl_load1 hE 4 rfl rfl rfl rfl (by simp [go_sem]) rfl ?_) | (refine wpl_load1 hE 5 rfl rfl rfl rfl (by simp [go_sem]) rfl ?_)))
        go_roundw
        case rel => exact ⟨j + 1, hlt, by simp, by rw [Htake.out, if_neg Hk.out], hE⟩
        case measure => simp [intOf]; omega
    · have hk2 : j = s.wait.length := by omega
      have Hj := SL.hid (show s.wait.take j = s.wait by rw [hk2, List.take_length])
      clear hk2
      go_wp2_with (first | go_skip | (first | (refine wpl_load1 hE 0 rfl rfl rfl rfl (by simp [go_sem]) rfl ?_) | (refine wpl_load1 hE 1 rfl rfl rfl rfl (by simp [go_sem]) rfl ?_) | (refine wpl_load1 hE 2 rfl rfl rfl rfl (by simp [go_sem]) rfl ?_) | (refine wpl_load1 hE 3 rfl rfl rfl rfl (by simp [go_sem]) rfl ?_) | (refine wpl_load1 hE 4 rfl rfl rfl rfl (by simp [go_sem]) rfl ?_) | (refine wpl_load1 hE 5 rfl rfl rfl rfl (by simp [go_sem]) rfl ?_)))
      go_ret2
      refine ⟨_, rfl, ?_, hE.tail⟩
      rw [Hj.out]
      rfl

theorem readE_dead {s : DS} (hd : s.dead = true) (k : Int) : s.readE k = 4 ∧ s.readB k = [] := by
  have h : s.readE k = 4 := by unfold DS.readE; rw [hd]; rfl
  refine ⟨h, ?_⟩
  unfold DS.readB
  rw [h]; rfl
theorem readE_bad {s : DS} (hd : s.dead = false) {k : Int} (hk : ¬(0 ≤ k ∧ k < s.on.length)) : s.readE k = 2 ∧ s.readB k = [] := by
  have h : s.readE k = 2 := by unfold DS.readE DS.hasE; rw [hd, if_neg hk]; rfl
  refine ⟨h, ?_⟩
  unfold DS.readB
  rw [h]; rfl
theorem readE_ok {s : DS} (hd : s.dead = false) {k : Nat} (hk : k < s.on.length) : s.readE (k : Int) = 0 ∧ s.readB (k : Int) = s.readAt k := by
  have h : s.readE (k : Int) = 0 := by unfold DS.readE DS.hasE; rw [hd, if_pos (show 0 ≤ (k : Int) ∧ (k : Int) < s.on.length from ⟨by omega, by omega⟩)]; rfl
  refine ⟨h, ?_⟩
  unfold DS.readB
  rw [h]; rfl
theorem rRead_any {F R : List HProp} {w : World} {s : DS} {xs : List Value} {k : Int} (hw : s.wait.length ≤ 1000000) (hx : refIs R xs s) (hE : Ent (F ++ R) w) :
    Calls Try.prog 84 #[.agg xs.toArray, .int .i64 k] w (Ret fun v w' => v = .tuple #[.string ⟨(s.readB k).toArray⟩, .int .i64 (s.readE k)] ∧ Ent (F ++ R) w') := by
  cases hd : s.dead with
  | true =>
    rw [(readE_dead hd k).1, (readE_dead hd k).2]
    exact rRead_dead hd hx hE
  | false =>
    by_cases h : k < 0
    · obtain ⟨e1, e2⟩ := readE_bad (k := k) hd (fun h' => by omega)
      rw [e1, e2]
      exact rRead_bad1 hd h hx hE
    · obtain ⟨m, rfl⟩ := Int.eq_ofNat_of_zero_le (by omega : 0 ≤ k)
      by_cases h' : s.on.length ≤ m
      · obtain ⟨e1, e2⟩ := readE_bad (k := (m : Int)) hd (fun h'' => by omega)
        rw [e1, e2]
        exact rRead_bad2 hd h' hx hE
      · obtain ⟨e1, e2⟩ := readE_ok hd (by omega : m < s.on.length)
        rw [e1, e2]
        exact rRead_in hw hd (by omega) hx hE

def RnRel (n bd br : Nat) (F R : List HProp) (i : Value) (wr : World) : Prop :=
  ∃ (k : Nat) (ao : Option Addr) (c : Nat) (cs : List Value), k ≤ n ∧ i = .int .i64 k ∧ cs.length = 6 ∧
    Ent (pt bd (.cells #[.slice ao k c, .slice none 0 0, .bool false, .int .i64 (-1), .string ⟨#[]⟩, .int .u64 0] 71) :: row 9 1 (.slice ao k c) k ((List.replicate k (fullSec 0)).map strv) :: pt br (.cells cs.toArray 71) :: (F ++ R)) wr

theorem zeros512 : (List.replicate 512 [Value.int .u8 0]).flatten = bvals (fullSec 0) := by
  have e : bvals (fullSec 0) = List.replicate 512 (Value.int .u8 0) := by
    unfold fullSec bvals; rw [List.map_replicate]; rfl
  rw [e]
  have : ∀ n, (List.replicate n [Value.int .u8 0]).flatten = List.replicate n (Value.int .u8 0) := by
    intro n
    induction n with
    | zero => rfl
    | succ n ih => rw [List.replicate_succ, List.flatten_cons, ih, List.replicate_succ]; rfl
  exact this 512

set_option maxRecDepth 100000 in
set_option maxHeartbeats 1000000 in
theorem rNew_any {F R : List HProp} {w : World} {n : Nat} (hn : n ≤ 4096) (hE : Ent (F ++ R) w) :
    Calls Try.prog 43 #[.int .i64 n] w (Ret fun v w' => ∃ m ys, v = .agg ys.toArray ∧ refIs (m ++ R) ys (DS.new n) ∧ Ent (F ++ (m ++ R)) w') := by
  go_enter Try.func43, Try.ntmps43
  go_wp2_with (first
    | go_skip
    | (refine wpl_allocN hE rfl rfl (n := 6) (by kernel_rfl) ?_; clear hE; intro br cs w1 hq hE2)
    | (refine wpl_allocN hE2 rfl rfl (n := 6) (by kernel_rfl) ?_; clear hE2; intro bd cs2 w1 hq2 hE)
    | (refine wpl_storeN hE 0 rfl rfl rfl rfl rfl Try.sizeOf71 rfl (by simp [Value.oneCell']) hq2 ?_; clear hE; intro w3 hE; simp only [List.cons_append, List.set_cons_succ, List.set_cons_zero] at hE))
  go_loopw [4] (fun i wr => RnRel n bd br F R i wr) (fun i _ => n - (intOf i).toNat)
  case atStart => exact ⟨0, none, 0, cs, Nat.zero_le _, rfl, hq, (hE.nil 9 1).front 1 rfl⟩
  case round =>
    clear hE hq hq2
    obtain ⟨k, ao, c, cs, hk, rfl, hq, hE⟩ := hrel
    by_cases hlt : k < n
    · go_wp2_with (first | go_skip)
      have hED := hE.drew
      have d1 : wr.drew.cell? ⟨bd, 0, none⟩ = some (.slice ao k c) := hED.cell 0 rfl 0
      have hz : zeroList Try.prog 5 = some ([.int .u8 0], 1, 1) := by kernel_rfl
      obtain ⟨g, wq, hr, hEq⟩ := hED.makeN (P := Try.prog) Try.underlying33 hz rfl (by decide) .i64 .i64 512 (by decide) (by decide)
      rw [zeros512] at hEq
      have hr : (Instr.makeSlice 33 (.int .i64 512) (.int .i64 512)).run Try.prog wr.drew = .ok (.slice (some ⟨g, 0, none⟩) 512 512) wq := hr
      have hcv : (convert 33 9 (.slice (some ⟨g, 0, none⟩) 512 512)).run Try.prog wq = .ok (.string ⟨(fullSec 0).toArray⟩) wq :=
        bytesToString_reads (P := Try.prog) Try.underlying33 Try.underlying5 Try.underlying9 (reads_row hEq 0 rfl) (fullSec_length 0).symm
      have d2 : wq.cell? ⟨bd, 0, none⟩ = some (.slice ao k c) := hEq.cell 1 rfl 0
      clear hz
      have d3 : ∀ o, (wq.alloc o).cell? ⟨bd, 0, none⟩ = some (.slice ao k c) := fun o => (hEq.alloc o).cell 2 rfl 0
      go_region_law ((refine step_appendG ((hEq.alloc _)) 3 rfl (by rfl) (by rfl) (by rfl) (by rfl) Try.underlying58 info_string (by decide) (m := 1) (news := [strv (fullSec 0)]) (reads_pt (hEq.alloc _) 0 rfl (off := 0) (fun j u hu => by simpa [strv] using hu)) rfl (by simp [strv, Value.oneCell']) (by omega) (by omega) ?_); (intro ao' c' w3 hE3; have d4 : w3.cell? ⟨bd, 0, none⟩ = some (.slice ao k c) := hE3.cell 2 rfl 0; have d5 : w3.frozen? ⟨bd, 0, none⟩ = false := hE3.frozen 2 rfl 0))
      all_goals
        go_wp2
        go_roundw
        case rel =>
          have hE4 := (hE3.setCell 2 rfl 0 (.slice ao' (k + 1) c')).tail.tail
          have e1 : (List.replicate k (fullSec 0)).map strv ++ [strv (fullSec 0)] = (List.replicate (k + 1) (fullSec 0)).map strv := by rw [List.replicate_succ', List.map_append]; rfl
          simp only [List.set_cons_succ, List.set_cons_zero, e1] at hE4
          exact ⟨k + 1, ao', c', cs, hlt, by simp, hq, hE4⟩
        case measure => simp [intOf]; omega
    · have hk2 : k = n := by omega
      subst hk2
      go_wp2_with (first
        | go_skip
        | (refine wpl_loadW hE 0 rfl rfl rfl rfl Try.isAgg71 Try.sizeOf71 rfl ?_)
        | (refine wpl_storeN hE 2 rfl rfl rfl rfl rfl Try.sizeOf71 rfl (by simp [Value.oneCell']) hq ?_; clear hE; intro w3 hE; simp only [List.set_cons_succ, List.set_cons_zero] at hE))
      refine bodyPost_ret (results_cellA rfl hE 2 rfl rfl Try.isAgg71 Try.sizeOf71 rfl) rfl ⟨_, rfl, [view (.slice ao k c) k ((List.replicate k (fullSec 0)).map strv)], _, rfl, ?_, ?_⟩
      · refine ⟨ao, c, none, 0, ?_, ?_, fun _ _ => reads_nil 0 0 rfl _⟩
        · unfold rcells
          simp [DS.new]
        · simp only [DS.new, List.length_replicate]
          exact knows_view _ _ _ _
      · exact (((hE.erase 2).tail).toView 0 rfl).keepNew
end Go.Proofs.Ytpchnmcofkffiaa
