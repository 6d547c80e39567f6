/-
  The document's disk: a write.
-/
import Derived.Test.YtpchnmcofkffiaaDr2
namespace Go.Proofs.Ytpchnmcofkffiaa
open Go.RowKit Go.SL

theorem knows_drop {F R : List HProp} {p : World → Prop} (h : Knows R p) : ∀ w, Ent (F ++ R) w → p w := fun w hE => h w hE.drop

set_option maxRecDepth 100000 in
theorem rWrite_dead {F R : List HProp} {w : World} {s : DS} {xs : List Value} {k : Int} {bs : List UInt8} (hd : s.dead = true) (hx : refIs R xs s) (hE : Ent (F ++ R) w) :
    Calls Try.prog 85 #[.agg xs.toArray, .int .i64 k, .string ⟨bs.toArray⟩] w (Ret fun v w' => ∃ ys, v = .tuple #[.agg ys.toArray, .int .i64 4] ∧ refIs R ys s ∧ Ent (F ++ R) w') := by
  obtain ⟨ao, c, aw, d, rfl, h1, h2⟩ := hx
  have H1 := SL.hid h1
  have H2 := SL.hid h2
  have Hd := SL.hid hd
  clear h1 h2
  unfold rcells
  rw [hd]
  clear hd
  go_enter Try.func85, Try.ntmps85
  go_wp2_with (first
    | go_skip
    | (refine wpl_box hE rfl rfl rfl ?_; clear hE; intro bd w hE; simp only [Act.eval, Act.put, List.setIfInBounds_toArray, List.set_cons_zero, List.set_cons_succ, getD_lit, List.getD_cons_succ, List.getD_cons_zero, Value.cells] at hE) | (refine wpl_allocN hE rfl rfl (n := 6) (by kernel_rfl) ?_; clear hE; intro br cs w1 hq hE) | (refine wpl_loadW hE 1 rfl rfl rfl rfl Try.isAgg71 Try.sizeOf71 rfl ?_)
    | (refine wpl_storeN hE 0 rfl rfl rfl rfl rfl Try.sizeOf71 rfl (by simp [Value.oneCell']) hq ?_; clear hE; intro w3 hE; simp only [List.cons_append, List.set_cons_succ, List.set_cons_zero] at hE)
    | (first | (refine wpl_load1 hE 0 rfl rfl rfl rfl (by simp [go_sem]) rfl ?_) | (refine wpl_load1 hE 1 rfl rfl rfl rfl (by simp [go_sem]) rfl ?_) | (refine wpl_load1 hE 2 rfl rfl rfl rfl (by simp [go_sem]) rfl ?_) | (refine wpl_load1 hE 3 rfl rfl rfl rfl (by simp [go_sem]) rfl ?_) | (refine wpl_load1 hE 4 rfl rfl rfl rfl (by simp [go_sem]) rfl ?_) | (refine wpl_load1 hE 5 rfl rfl rfl rfl (by simp [go_sem]) rfl ?_)) | (first | (refine wpl_store hE 0 rfl rfl rfl rfl rfl (by simp [go_sem]; rfl) (by rfl) (by simp [Value.cells, Value.oneCell', Act.eval]) (by simp) ?_; clear hE; intro w hE; simp only [Act.eval, getD_lit, List.getD_cons_succ, List.getD_cons_zero, Value.cells, List.set_cons_zero, List.set_cons_succ, List.take_succ_cons, List.take_zero, List.nil_append, List.cons_append, List.drop_succ_cons, List.drop_zero, List.length_cons, List.length_nil, Nat.reduceAdd, Nat.zero_add] at hE) | (refine wpl_store hE 1 rfl rfl rfl rfl rfl (by simp [go_sem]; rfl) (by rfl) (by simp [Value.cells, Value.oneCell', Act.eval]) (by simp) ?_; clear hE; intro w hE; simp only [Act.eval, getD_lit, List.getD_cons_succ, List.getD_cons_zero, Value.cells, List.set_cons_zero, List.set_cons_succ, List.take_succ_cons, List.take_zero, List.nil_append, List.cons_append, List.drop_succ_cons, List.drop_zero, List.length_cons, List.length_nil, Nat.reduceAdd, Nat.zero_add] at hE) | (refine wpl_store hE 2 rfl rfl rfl rfl rfl (by simp [go_sem]; rfl) (by rfl) (by simp [Value.cells, Value.oneCell', Act.eval]) (by simp) ?_; clear hE; intro w hE; simp only [Act.eval, getD_lit, List.getD_cons_succ, List.getD_cons_zero, Value.cells, List.set_cons_zero, List.set_cons_succ, List.take_succ_cons, List.take_zero, List.nil_append, List.cons_append, List.drop_succ_cons, List.drop_zero, List.length_cons, List.length_nil, Nat.reduceAdd, Nat.zero_add] at hE) | (refine wpl_store hE 3 rfl rfl rfl rfl rfl (by simp [go_sem]; rfl) (by rfl) (by simp [Value.cells, Value.oneCell', Act.eval]) (by simp) ?_; clear hE; intro w hE; simp only [Act.eval, getD_lit, List.getD_cons_succ, List.getD_cons_zero, Value.cells, List.set_cons_zero, List.set_cons_succ, List.take_succ_cons, List.take_zero, List.nil_append, List.cons_append, List.drop_succ_cons, List.drop_zero, List.length_cons, List.length_nil, Nat.reduceAdd, Nat.zero_add] at hE) | (refine wpl_store hE 4 rfl rfl rfl rfl rfl (by simp [go_sem]; rfl) (by rfl) (by simp [Value.cells, Value.oneCell', Act.eval]) (by simp) ?_; clear hE; intro w hE; simp only [Act.eval, getD_lit, List.getD_cons_succ, List.getD_cons_zero, Value.cells, List.set_cons_zero, List.set_cons_succ, List.take_succ_cons, List.take_zero, List.nil_append, List.cons_append, List.drop_succ_cons, List.drop_zero, List.length_cons, List.length_nil, Nat.reduceAdd, Nat.zero_add] at hE) | (refine wpl_store hE 5 rfl rfl rfl rfl rfl (by simp [go_sem]; rfl) (by rfl) (by simp [Value.cells, Value.oneCell', Act.eval]) (by simp) ?_; clear hE; intro w hE; simp only [Act.eval, getD_lit, List.getD_cons_succ, List.getD_cons_zero, Value.cells, List.set_cons_zero, List.set_cons_succ, List.take_succ_cons, List.take_zero, List.nil_append, List.cons_append, List.drop_succ_cons, List.drop_zero, List.length_cons, List.length_nil, Nat.reduceAdd, Nat.zero_add] at hE)))
  refine bodyPost_ret (results_cell2 rfl hE 0 rfl rfl Try.isAgg71 Try.sizeOf71 rfl rfl) rfl ⟨_, rfl, _, rfl, ⟨ao, c, aw, d, by unfold rcells; rw [Hd.out], H1.out, H2.out⟩, hE.tail.tail⟩

set_option maxRecDepth 100000 in
theorem rWrite_bad1 {F R : List HProp} {w : World} {s : DS} {xs : List Value} {k : Int} {bs : List UInt8} (hd : s.dead = false) (hb : k < 0) (hx : refIs R xs s) (hE : Ent (F ++ R) w) :
    Calls Try.prog 85 #[.agg xs.toArray, .int .i64 k, .string ⟨bs.toArray⟩] w (Ret fun v w' => ∃ ys, v = .tuple #[.agg ys.toArray, .int .i64 2] ∧ refIs R ys s ∧ Ent (F ++ R) w') := by
  obtain ⟨ao, c, aw, d, rfl, h1, h2⟩ := hx
  have H1 := SL.hid h1
  have H2 := SL.hid h2
  have Hd := SL.hid hd
  clear h1 h2
  unfold rcells
  rw [hd]
  clear hd
  go_enter Try.func85, Try.ntmps85
  go_wp2_with (first
    | go_skip
    | (refine wpl_box hE rfl rfl rfl ?_; clear hE; intro bd w hE; simp only [Act.eval, Act.put, List.setIfInBounds_toArray, List.set_cons_zero, List.set_cons_succ, getD_lit, List.getD_cons_succ, List.getD_cons_zero, Value.cells] at hE) | (refine wpl_allocN hE rfl rfl (n := 6) (by kernel_rfl) ?_; clear hE; intro br cs w1 hq hE) | (refine wpl_loadW hE 1 rfl rfl rfl rfl Try.isAgg71 Try.sizeOf71 rfl ?_)
    | (refine wpl_storeN hE 0 rfl rfl rfl rfl rfl Try.sizeOf71 rfl (by simp [Value.oneCell']) hq ?_; clear hE; intro w3 hE; simp only [List.cons_append, List.set_cons_succ, List.set_cons_zero] at hE)
    | (first | (refine wpl_load1 hE 0 rfl rfl rfl rfl (by simp [go_sem]) rfl ?_) | (refine wpl_load1 hE 1 rfl rfl rfl rfl (by simp [go_sem]) rfl ?_) | (refine wpl_load1 hE 2 rfl rfl rfl rfl (by simp [go_sem]) rfl ?_) | (refine wpl_load1 hE 3 rfl rfl rfl rfl (by simp [go_sem]) rfl ?_) | (refine wpl_load1 hE 4 rfl rfl rfl rfl (by simp [go_sem]) rfl ?_) | (refine wpl_load1 hE 5 rfl rfl rfl rfl (by simp [go_sem]) rfl ?_)) | (first | (refine wpl_store hE 0 rfl rfl rfl rfl rfl (by simp [go_sem]; rfl) (by rfl) (by simp [Value.cells, Value.oneCell', Act.eval]) (by simp) ?_; clear hE; intro w hE; simp only [Act.eval, getD_lit, List.getD_cons_succ, List.getD_cons_zero, Value.cells, List.set_cons_zero, List.set_cons_succ, List.take_succ_cons, List.take_zero, List.nil_append, List.cons_append, List.drop_succ_cons, List.drop_zero, List.length_cons, List.length_nil, Nat.reduceAdd, Nat.zero_add] at hE) | (refine wpl_store hE 1 rfl rfl rfl rfl rfl (by simp [go_sem]; rfl) (by rfl) (by simp [Value.cells, Value.oneCell', Act.eval]) (by simp) ?_; clear hE; intro w hE; simp only [Act.eval, getD_lit, List.getD_cons_succ, List.getD_cons_zero, Value.cells, List.set_cons_zero, List.set_cons_succ, List.take_succ_cons, List.take_zero, List.nil_append, List.cons_append, List.drop_succ_cons, List.drop_zero, List.length_cons, List.length_nil, Nat.reduceAdd, Nat.zero_add] at hE) | (refine wpl_store hE 2 rfl rfl rfl rfl rfl (by simp [go_sem]; rfl) (by rfl) (by simp [Value.cells, Value.oneCell', Act.eval]) (by simp) ?_; clear hE; intro w hE; simp only [Act.eval, getD_lit, List.getD_cons_succ, List.getD_cons_zero, Value.cells, List.set_cons_zero, List.set_cons_succ, List.take_succ_cons, List.take_zero, List.nil_append, List.cons_append, List.drop_succ_cons, List.drop_zero, List.length_cons, List.length_nil, Nat.reduceAdd, Nat.zero_add] at hE) | (refine wpl_store hE 3 rfl rfl rfl rfl rfl (by simp [go_sem]; rfl) (by rfl) (by simp [Value.cells, Value.oneCell', Act.eval]) (by simp) ?_; clear hE; intro w hE; simp only [Act.eval, getD_lit, List.getD_cons_succ, List.getD_cons_zero, Value.cells, List.set_cons_zero, List.set_cons_succ, List.take_succ_cons, List.take_zero, List.nil_append, List.cons_append, List.drop_succ_cons, List.drop_zero, List.length_cons, List.length_nil, Nat.reduceAdd, Nat.zero_add] at hE) | (refine wpl_store hE 4 rfl rfl rfl rfl rfl (by simp [go_sem]; rfl) (by rfl) (by simp [Value.cells, Value.oneCell', Act.eval]) (by simp) ?_; clear hE; intro w hE; simp only [Act.eval, getD_lit, List.getD_cons_succ, List.getD_cons_zero, Value.cells, List.set_cons_zero, List.set_cons_succ, List.take_succ_cons, List.take_zero, List.nil_append, List.cons_append, List.drop_succ_cons, List.drop_zero, List.length_cons, List.length_nil, Nat.reduceAdd, Nat.zero_add] at hE) | (refine wpl_store hE 5 rfl rfl rfl rfl rfl (by simp [go_sem]; rfl) (by rfl) (by simp [Value.cells, Value.oneCell', Act.eval]) (by simp) ?_; clear hE; intro w hE; simp only [Act.eval, getD_lit, List.getD_cons_succ, List.getD_cons_zero, Value.cells, List.set_cons_zero, List.set_cons_succ, List.take_succ_cons, List.take_zero, List.nil_append, List.cons_append, List.drop_succ_cons, List.drop_zero, List.length_cons, List.length_nil, Nat.reduceAdd, Nat.zero_add] at hE)))
  refine bodyPost_ret (results_cell2 rfl hE 0 rfl rfl Try.isAgg71 Try.sizeOf71 rfl rfl) rfl ⟨_, rfl, _, rfl, ⟨ao, c, aw, d, by unfold rcells; rw [Hd.out], H1.out, H2.out⟩, hE.tail.tail⟩

set_option maxRecDepth 100000 in
theorem rWrite_bad2 {F R : List HProp} {w : World} {s : DS} {xs : List Value} {k : Nat} {bs : List UInt8} (hd : s.dead = false) (hb : s.on.length ≤ k) (hx : refIs R xs s) (hE : Ent (F ++ R) w) :
    Calls Try.prog 85 #[.agg xs.toArray, .int .i64 k, .string ⟨bs.toArray⟩] w (Ret fun v w' => ∃ ys, v = .tuple #[.agg ys.toArray, .int .i64 2] ∧ refIs R ys s ∧ Ent (F ++ R) w') := by
  obtain ⟨ao, c, aw, d, rfl, h1, h2⟩ := hx
  have H1 := SL.hid h1
  have H2 := SL.hid h2
  have Hd := SL.hid hd
  clear h1 h2
  unfold rcells
  rw [hd]
  clear hd
  go_enter Try.func85, Try.ntmps85
  go_wp2_with (first
    | go_skip
    | (refine wpl_box hE rfl rfl rfl ?_; clear hE; intro bd w hE; simp only [Act.eval, Act.put, List.setIfInBounds_toArray, List.set_cons_zero, List.set_cons_succ, getD_lit, List.getD_cons_succ, List.getD_cons_zero, Value.cells] at hE) | (refine wpl_allocN hE rfl rfl (n := 6) (by kernel_rfl) ?_; clear hE; intro br cs w1 hq hE) | (refine wpl_loadW hE 1 rfl rfl rfl rfl Try.isAgg71 Try.sizeOf71 rfl ?_)
    | (refine wpl_storeN hE 0 rfl rfl rfl rfl rfl Try.sizeOf71 rfl (by simp [Value.oneCell']) hq ?_; clear hE; intro w3 hE; simp only [List.cons_append, List.set_cons_succ, List.set_cons_zero] at hE)
    | (first | (refine wpl_load1 hE 0 rfl rfl rfl rfl (by simp [go_sem]) rfl ?_) | (refine wpl_load1 hE 1 rfl rfl rfl rfl (by simp [go_sem]) rfl ?_) | (refine wpl_load1 hE 2 rfl rfl rfl rfl (by simp [go_sem]) rfl ?_) | (refine wpl_load1 hE 3 rfl rfl rfl rfl (by simp [go_sem]) rfl ?_) | (refine wpl_load1 hE 4 rfl rfl rfl rfl (by simp [go_sem]) rfl ?_) | (refine wpl_load1 hE 5 rfl rfl rfl rfl (by simp [go_sem]) rfl ?_)) | (first | (refine wpl_store hE 0 rfl rfl rfl rfl rfl (by simp [go_sem]; rfl) (by rfl) (by simp [Value.cells, Value.oneCell', Act.eval]) (by simp) ?_; clear hE; intro w hE; simp only [Act.eval, getD_lit, List.getD_cons_succ, List.getD_cons_zero, Value.cells, List.set_cons_zero, List.set_cons_succ, List.take_succ_cons, List.take_zero, List.nil_append, List.cons_append, List.drop_succ_cons, List.drop_zero, List.length_cons, List.length_nil, Nat.reduceAdd, Nat.zero_add] at hE) | (refine wpl_store hE 1 rfl rfl rfl rfl rfl (by simp [go_sem]; rfl) (by rfl) (by simp [Value.cells, Value.oneCell', Act.eval]) (by simp) ?_; clear hE; intro w hE; simp only [Act.eval, getD_lit, List.getD_cons_succ, List.getD_cons_zero, Value.cells, List.set_cons_zero, List.set_cons_succ, List.take_succ_cons, List.take_zero, List.nil_append, List.cons_append, List.drop_succ_cons, List.drop_zero, List.length_cons, List.length_nil, Nat.reduceAdd, Nat.zero_add] at hE) | (refine wpl_store hE 2 rfl rfl rfl rfl rfl (by simp [go_sem]; rfl) (by rfl) (by simp [Value.cells, Value.oneCell', Act.eval]) (by simp) ?_; clear hE; intro w hE; simp only [Act.eval, getD_lit, List.getD_cons_succ, List.getD_cons_zero, Value.cells, List.set_cons_zero, List.set_cons_succ, List.take_succ_cons, List.take_zero, List.nil_append, List.cons_append, List.drop_succ_cons, List.drop_zero, List.length_cons, List.length_nil, Nat.reduceAdd, Nat.zero_add] at hE) | (refine wpl_store hE 3 rfl rfl rfl rfl rfl (by simp [go_sem]; rfl) (by rfl) (by simp [Value.cells, Value.oneCell', Act.eval]) (by simp) ?_; clear hE; intro w hE; simp only [Act.eval, getD_lit, List.getD_cons_succ, List.getD_cons_zero, Value.cells, List.set_cons_zero, List.set_cons_succ, List.take_succ_cons, List.take_zero, List.nil_append, List.cons_append, List.drop_succ_cons, List.drop_zero, List.length_cons, List.length_nil, Nat.reduceAdd, Nat.zero_add] at hE) | (refine wpl_store hE 4 rfl rfl rfl rfl rfl (by simp [go_sem]; rfl) (by rfl) (by simp [Value.cells, Value.oneCell', Act.eval]) (by simp) ?_; clear hE; intro w hE; simp only [Act.eval, getD_lit, List.getD_cons_succ, List.getD_cons_zero, Value.cells, List.set_cons_zero, List.set_cons_succ, List.take_succ_cons, List.take_zero, List.nil_append, List.cons_append, List.drop_succ_cons, List.drop_zero, List.length_cons, List.length_nil, Nat.reduceAdd, Nat.zero_add] at hE) | (refine wpl_store hE 5 rfl rfl rfl rfl rfl (by simp [go_sem]; rfl) (by rfl) (by simp [Value.cells, Value.oneCell', Act.eval]) (by simp) ?_; clear hE; intro w hE; simp only [Act.eval, getD_lit, List.getD_cons_succ, List.getD_cons_zero, Value.cells, List.set_cons_zero, List.set_cons_succ, List.take_succ_cons, List.take_zero, List.nil_append, List.cons_append, List.drop_succ_cons, List.drop_zero, List.length_cons, List.length_nil, Nat.reduceAdd, Nat.zero_add] at hE)))
  refine bodyPost_ret (results_cell2 rfl hE 0 rfl rfl Try.isAgg71 Try.sizeOf71 rfl rfl) rfl ⟨_, rfl, _, rfl, ⟨ao, c, aw, d, by unfold rcells; rw [Hd.out], H1.out, H2.out⟩, hE.tail.tail⟩

set_option maxRecDepth 100000 in
theorem rWrite_bad3 {F R : List HProp} {w : World} {s : DS} {xs : List Value} {k : Nat} {bs : List UInt8} (hd : s.dead = false) (hb : k < s.on.length) (hb' : ((bs.length : Int) != 512) = true) (hx : refIs R xs s) (hE : Ent (F ++ R) w) :
    Calls Try.prog 85 #[.agg xs.toArray, .int .i64 k, .string ⟨bs.toArray⟩] w (Ret fun v w' => ∃ ys, v = .tuple #[.agg ys.toArray, .int .i64 2] ∧ refIs R ys s ∧ Ent (F ++ R) w') := by
  obtain ⟨ao, c, aw, d, rfl, h1, h2⟩ := hx
  have H1 := SL.hid h1
  have H2 := SL.hid h2
  have Hd := SL.hid hd
  clear h1 h2
  unfold rcells
  rw [hd]
  clear hd
  go_enter Try.func85, Try.ntmps85
  go_wp2_with (first
    | go_skip
    | (refine wpl_box hE rfl rfl rfl ?_; clear hE; intro bd w hE; simp only [Act.eval, Act.put, List.setIfInBounds_toArray, List.set_cons_zero, List.set_cons_succ, getD_lit, List.getD_cons_succ, List.getD_cons_zero, Value.cells] at hE) | (refine wpl_allocN hE rfl rfl (n := 6) (by kernel_rfl) ?_; clear hE; intro br cs w1 hq hE) | (refine wpl_loadW hE 1 rfl rfl rfl rfl Try.isAgg71 Try.sizeOf71 rfl ?_)
    | (refine wpl_storeN hE 0 rfl rfl rfl rfl rfl Try.sizeOf71 rfl (by simp [Value.oneCell']) hq ?_; clear hE; intro w3 hE; simp only [List.cons_append, List.set_cons_succ, List.set_cons_zero] at hE)
    | (first | (refine wpl_load1 hE 0 rfl rfl rfl rfl (by simp [go_sem]) rfl ?_) | (refine wpl_load1 hE 1 rfl rfl rfl rfl (by simp [go_sem]) rfl ?_) | (refine wpl_load1 hE 2 rfl rfl rfl rfl (by simp [go_sem]) rfl ?_) | (refine wpl_load1 hE 3 rfl rfl rfl rfl (by simp [go_sem]) rfl ?_) | (refine wpl_load1 hE 4 rfl rfl rfl rfl (by simp [go_sem]) rfl ?_) | (refine wpl_load1 hE 5 rfl rfl rfl rfl (by simp [go_sem]) rfl ?_)) | (first | (refine wpl_store hE 0 rfl rfl rfl rfl rfl (by simp [go_sem]; rfl) (by rfl) (by simp [Value.cells, Value.oneCell', Act.eval]) (by simp) ?_; clear hE; intro w hE; simp only [Act.eval, getD_lit, List.getD_cons_succ, List.getD_cons_zero, Value.cells, List.set_cons_zero, List.set_cons_succ, List.take_succ_cons, List.take_zero, List.nil_append, List.cons_append, List.drop_succ_cons, List.drop_zero, List.length_cons, List.length_nil, Nat.reduceAdd, Nat.zero_add] at hE) | (refine wpl_store hE 1 rfl rfl rfl rfl rfl (by simp [go_sem]; rfl) (by rfl) (by simp [Value.cells, Value.oneCell', Act.eval]) (by simp) ?_; clear hE; intro w hE; simp only [Act.eval, getD_lit, List.getD_cons_succ, List.getD_cons_zero, Value.cells, List.set_cons_zero, List.set_cons_succ, List.take_succ_cons, List.take_zero, List.nil_append, List.cons_append, List.drop_succ_cons, List.drop_zero, List.length_cons, List.length_nil, Nat.reduceAdd, Nat.zero_add] at hE) | (refine wpl_store hE 2 rfl rfl rfl rfl rfl (by simp [go_sem]; rfl) (by rfl) (by simp [Value.cells, Value.oneCell', Act.eval]) (by simp) ?_; clear hE; intro w hE; simp only [Act.eval, getD_lit, List.getD_cons_succ, List.getD_cons_zero, Value.cells, List.set_cons_zero, List.set_cons_succ, List.take_succ_cons, List.take_zero, List.nil_append, List.cons_append, List.drop_succ_cons, List.drop_zero, List.length_cons, List.length_nil, Nat.reduceAdd, Nat.zero_add] at hE) | (refine wpl_store hE 3 rfl rfl rfl rfl rfl (by simp [go_sem]; rfl) (by rfl) (by simp [Value.cells, Value.oneCell', Act.eval]) (by simp) ?_; clear hE; intro w hE; simp only [Act.eval, getD_lit, List.getD_cons_succ, List.getD_cons_zero, Value.cells, List.set_cons_zero, List.set_cons_succ, List.take_succ_cons, List.take_zero, List.nil_append, List.cons_append, List.drop_succ_cons, List.drop_zero, List.length_cons, List.length_nil, Nat.reduceAdd, Nat.zero_add] at hE) | (refine wpl_store hE 4 rfl rfl rfl rfl rfl (by simp [go_sem]; rfl) (by rfl) (by simp [Value.cells, Value.oneCell', Act.eval]) (by simp) ?_; clear hE; intro w hE; simp only [Act.eval, getD_lit, List.getD_cons_succ, List.getD_cons_zero, Value.cells, List.set_cons_zero, List.set_cons_succ, List.take_succ_cons, List.take_zero, List.nil_append, List.cons_append, List.drop_succ_cons, List.drop_zero, List.length_cons, List.length_nil, Nat.reduceAdd, Nat.zero_add] at hE) | (refine wpl_store hE 5 rfl rfl rfl rfl rfl (by simp [go_sem]; rfl) (by rfl) (by simp [Value.cells, Value.oneCell', Act.eval]) (by simp) ?_; clear hE; intro w hE; simp only [Act.eval, getD_lit, List.getD_cons_succ, List.getD_cons_zero, Value.cells, List.set_cons_zero, List.set_cons_succ, List.take_succ_cons, List.take_zero, List.nil_append, List.cons_append, List.drop_succ_cons, List.drop_zero, List.length_cons, List.length_nil, Nat.reduceAdd, Nat.zero_add] at hE)))
  refine bodyPost_ret (results_cell2 rfl hE 0 rfl rfl Try.isAgg71 Try.sizeOf71 rfl rfl) rfl ⟨_, rfl, _, rfl, ⟨ao, c, aw, d, by unfold rcells; rw [Hd.out], H1.out, H2.out⟩, hE.tail.tail⟩

theorem rWrite_bad {F R : List HProp} {w : World} {s : DS} {xs : List Value} {k : Int} {bs : List UInt8} (hd : s.dead = false) (hb : ¬(0 ≤ k ∧ k < s.on.length ∧ bs.length = 512)) (hx : refIs R xs s) (hE : Ent (F ++ R) w) :
    Calls Try.prog 85 #[.agg xs.toArray, .int .i64 k, .string ⟨bs.toArray⟩] w (Ret fun v w' => ∃ ys, v = .tuple #[.agg ys.toArray, .int .i64 2] ∧ refIs R ys s ∧ Ent (F ++ R) w') := by
  by_cases h : k < 0
  · exact rWrite_bad1 hd h hx hE
  · obtain ⟨m, rfl⟩ := Int.eq_ofNat_of_zero_le (by omega : 0 ≤ k)
    by_cases h' : s.on.length ≤ m
    · exact rWrite_bad2 hd h' hx hE
    · refine rWrite_bad3 hd (by omega) ?_ hx hE
      rw [bne_iff_ne]
      intro h2
      exact hb ⟨by omega, by omega, by omega⟩

set_option maxRecDepth 100000 in
theorem rWrite_gone {F R : List HProp} {w : World} {s : DS} {xs : List Value} {k : Nat} {bs : List UInt8} (hg : s.good) (hw : s.wait.length ≤ 1000000) (hd : s.dead = false) (hk : k < s.on.length) (hb : bs.length = 512) (h0 : s.left = 0) (hx : refIs R xs s) (hE : Ent (F ++ R) w) :
    Calls Try.prog 85 #[.agg xs.toArray, .int .i64 k, .string ⟨bs.toArray⟩] w (Ret fun v w' => ∃ m ys, v = .tuple #[.agg ys.toArray, .int .i64 4] ∧ refIs (m ++ R) ys (s.goes s.keep) ∧ Ent (F ++ (m ++ R)) w') := by
  have Hx := SL.hid hx
  have H0 := SL.hid h0
  obtain ⟨ao, c, aw, d, rfl, h1, h2⟩ := hx
  have Hd := SL.hid hd
  have hb' : ((bs.length : Int) != 512) = false := by simp [hb]
  clear h1 h2 h0 hb
  unfold rcells
  unfold rcells at Hx
  rw [hd] at Hx
  rw [hd]
  clear hd
  go_enter Try.func85, Try.ntmps85
  go_wp2_with (first
    | go_skip
    | (refine wpl_box hE rfl rfl rfl ?_; clear hE; intro bd w hE; simp only [Act.eval, Act.put, List.setIfInBounds_toArray, List.set_cons_zero, List.set_cons_succ, getD_lit, List.getD_cons_succ, List.getD_cons_zero, Value.cells] at hE) | (refine wpl_allocN hE rfl rfl (n := 6) (by kernel_rfl) ?_; clear hE; intro br cs w1 hq hE) | (refine wpl_loadW hE 1 rfl rfl rfl rfl Try.isAgg71 Try.sizeOf71 rfl ?_)
    | (go_at_call 86; have H := ract_gone (F := pt br (.cells cs.toArray 71) :: pt bd (.cells #[.slice ao s.on.length c, .slice aw s.wait.length d, .bool false, .int .i64 s.left, .string s.keep, .int .u64 s.acts] 71) :: F) hg hw H0.out Hx.out hE; refine H.mono ?_; clear H hE; rintro e w2 ⟨v, rfl, m, ys, rfl, hr, hE⟩; obtain ⟨ao2, c2, aw2, d2, rfl, k1, k2⟩ := hr; have Hr := SL.hid (⟨ao2, c2, aw2, d2, rfl, k1, k2⟩ : refIs (m ++ R) _ _); clear k1 k2; unfold rcells)
    | (refine wpl_storeN hE 1 rfl rfl rfl rfl rfl Try.sizeOf71 rfl (by simp [Value.oneCell']) rfl ?_; clear hE; intro w3 hE; simp only [List.cons_append, List.set_cons_succ, List.set_cons_zero] at hE)
    | (refine wpl_storeN hE 0 rfl rfl rfl rfl rfl Try.sizeOf71 rfl (by simp [Value.oneCell']) hq ?_; clear hE; intro w3 hE; simp only [List.cons_append, List.set_cons_succ, List.set_cons_zero] at hE)
    | (first | (refine wpl_load1 hE 0 rfl rfl rfl rfl (by simp [go_sem]) rfl ?_) | (refine wpl_load1 hE 1 rfl rfl rfl rfl (by simp [go_sem]) rfl ?_) | (refine wpl_load1 hE 2 rfl rfl rfl rfl (by simp [go_sem]) rfl ?_) | (refine wpl_load1 hE 3 rfl rfl rfl rfl (by simp [go_sem]) rfl ?_) | (refine wpl_load1 hE 4 rfl rfl rfl rfl (by simp [go_sem]) rfl ?_) | (refine wpl_load1 hE 5 rfl rfl rfl rfl (by simp [go_sem]) rfl ?_)) | (first | (refine wpl_store hE 0 rfl rfl rfl rfl rfl (by simp [go_sem]; rfl) (by rfl) (by simp [Value.cells, Value.oneCell', Act.eval]) (by simp) ?_; clear hE; intro w hE; simp only [Act.eval, getD_lit, List.getD_cons_succ, List.getD_cons_zero, Value.cells, List.set_cons_zero, List.set_cons_succ, List.take_succ_cons, List.take_zero, List.nil_append, List.cons_append, List.drop_succ_cons, List.drop_zero, List.length_cons, List.length_nil, Nat.reduceAdd, Nat.zero_add] at hE) | (refine wpl_store hE 1 rfl rfl rfl rfl rfl (by simp [go_sem]; rfl) (by rfl) (by simp [Value.cells, Value.oneCell', Act.eval]) (by simp) ?_; clear hE; intro w hE; simp only [Act.eval, getD_lit, List.getD_cons_succ, List.getD_cons_zero, Value.cells, List.set_cons_zero, List.set_cons_succ, List.take_succ_cons, List.take_zero, List.nil_append, List.cons_append, List.drop_succ_cons, List.drop_zero, List.length_cons, List.length_nil, Nat.reduceAdd, Nat.zero_add] at hE) | (refine wpl_store hE 2 rfl rfl rfl rfl rfl (by simp [go_sem]; rfl) (by rfl) (by simp [Value.cells, Value.oneCell', Act.eval]) (by simp) ?_; clear hE; intro w hE; simp only [Act.eval, getD_lit, List.getD_cons_succ, List.getD_cons_zero, Value.cells, List.set_cons_zero, List.set_cons_succ, List.take_succ_cons, List.take_zero, List.nil_append, List.cons_append, List.drop_succ_cons, List.drop_zero, List.length_cons, List.length_nil, Nat.reduceAdd, Nat.zero_add] at hE) | (refine wpl_store hE 3 rfl rfl rfl rfl rfl (by simp [go_sem]; rfl) (by rfl) (by simp [Value.cells, Value.oneCell', Act.eval]) (by simp) ?_; clear hE; intro w hE; simp only [Act.eval, getD_lit, List.getD_cons_succ, List.getD_cons_zero, Value.cells, List.set_cons_zero, List.set_cons_succ, List.take_succ_cons, List.take_zero, List.nil_append, List.cons_append, List.drop_succ_cons, List.drop_zero, List.length_cons, List.length_nil, Nat.reduceAdd, Nat.zero_add] at hE) | (refine wpl_store hE 4 rfl rfl rfl rfl rfl (by simp [go_sem]; rfl) (by rfl) (by simp [Value.cells, Value.oneCell', Act.eval]) (by simp) ?_; clear hE; intro w hE; simp only [Act.eval, getD_lit, List.getD_cons_succ, List.getD_cons_zero, Value.cells, List.set_cons_zero, List.set_cons_succ, List.take_succ_cons, List.take_zero, List.nil_append, List.cons_append, List.drop_succ_cons, List.drop_zero, List.length_cons, List.length_nil, Nat.reduceAdd, Nat.zero_add] at hE) | (refine wpl_store hE 5 rfl rfl rfl rfl rfl (by simp [go_sem]; rfl) (by rfl) (by simp [Value.cells, Value.oneCell', Act.eval]) (by simp) ?_; clear hE; intro w hE; simp only [Act.eval, getD_lit, List.getD_cons_succ, List.getD_cons_zero, Value.cells, List.set_cons_zero, List.set_cons_succ, List.take_succ_cons, List.take_zero, List.nil_append, List.cons_append, List.drop_succ_cons, List.drop_zero, List.length_cons, List.length_nil, Nat.reduceAdd, Nat.zero_add] at hE)))
  refine bodyPost_ret (results_cell2 rfl hE 0 rfl rfl Try.isAgg71 Try.sizeOf71 rfl rfl) rfl ⟨_, rfl, m, _, rfl, Hr.out, hE.tail.tail⟩

set_option maxRecDepth 100000 in
set_option maxHeartbeats 1000000 in
theorem rWrite_done {F R : List HProp} {w : World} {s : DS} {xs : List Value} {k : Nat} {bs : List UInt8} (hg : s.good) (hw : s.wait.length ≤ 1000000) (hd : s.dead = false) (hk : k < s.on.length) (hb : bs.length = 512) (h0 : s.left ≠ 0) (hx : refIs R xs s) (hE : Ent (F ++ R) w) :
    Calls Try.prog 85 #[.agg xs.toArray, .int .i64 k, .string ⟨bs.toArray⟩] w (Ret fun v w' => ∃ m ys, v = .tuple #[.agg ys.toArray, .int .i64 0] ∧ refIs (m ++ R) ys { s.acted with wait := s.wait ++ [⟨bs, k⟩] } ∧ Ent (F ++ (m ++ R)) w') := by
  have Ha := SL.hid (fun F w (hE : Ent (F ++ R) w) => ract_done (F := F) hg h0 hx hE)
  obtain ⟨ao, c, aw, d, rfl, h1, h2⟩ := hx
  have Hd := SL.hid hd
  have hb' : ((bs.length : Int) != 512) = false := by simp [hb]
  have e1 : s.wait = s.acted.wait := rfl
  have hw2 : s.acted.wait.length ≤ 1000000 := hw
  clear h1 h2 h0 hb hg hw
  unfold rcells
  unfold rcells at Ha
  rw [hd] at Ha
  rw [hd]
  rw [show ({ s.acted with wait := s.wait ++ [⟨bs, k⟩] } : DS) = { s.acted with wait := s.acted.wait ++ [⟨bs, k⟩] } from rfl]
  generalize s.acted = t at *
  clear hd e1
  go_enter Try.func85, Try.ntmps85
  go_wp2_with (first
    | go_skip
    | (refine wpl_box hE rfl rfl rfl ?_; clear hE; intro bd w hE; simp only [Act.eval, Act.put, List.setIfInBounds_toArray, List.set_cons_zero, List.set_cons_succ, getD_lit, List.getD_cons_succ, List.getD_cons_zero, Value.cells] at hE) | (refine wpl_allocN hE rfl rfl (n := 6) (by kernel_rfl) ?_; clear hE; intro br cs w1 hq hE) | (refine wpl_loadW hE 1 rfl rfl rfl rfl Try.isAgg71 Try.sizeOf71 rfl ?_)
    | (go_at_call 86; have H := Ha.out (pt br (.cells cs.toArray 71) :: pt bd (.cells #[.slice ao s.on.length c, .slice aw s.wait.length d, .bool false, .int .i64 s.left, .string s.keep, .int .u64 s.acts] 71) :: F) _ hE; refine H.mono ?_; clear H hE Ha; rintro e w2 ⟨v, rfl, ys, rfl, hr, hE⟩; obtain ⟨ao2, c2, aw2, d2, rfl, k1, k2⟩ := hr; have H1 := SL.hid k1; have H2 := SL.hid k2; clear k1 k2; unfold rcells)
    | (refine wpl_storeN hE 1 rfl rfl rfl rfl rfl Try.sizeOf71 rfl (by simp [Value.oneCell']) rfl ?_; clear hE; intro w3 hE; simp only [List.cons_append, List.set_cons_succ, List.set_cons_zero] at hE)
    | (at_builtin; refine wpl_appendG (hE.nil 130 2) 0 rfl rfl rfl rfl rfl Try.underlying69 info_rwrite (by decide) (m := t.wait.length) (news := t.wait.flatMap rw2) (H2.out _ hE.tail.tail.drop) (rw2_len _) (rw2_one _) (by omega) (by omega) ?_; clear hE; intro ao3 c3 w3 hE3; simp only [Nat.zero_add, List.nil_append, List.set_cons_zero] at hE3)
    | (at_builtin; refine wpl_appendG (hE3.alloc _) 1 rfl rfl rfl rfl rfl Try.underlying69 info_rwrite (by decide) (m := 1) (news := rw2 ⟨bs, k⟩) (reads_pt (hE3.alloc _) 0 rfl (off := 0) (fun j u hu => by simpa [rw2, strv] using hu)) rfl (by simp [rw2, strv, Value.oneCell']) (by omega) (by omega) ?_; clear hE3; intro ao4 c4 w4 hE4; simp only [List.set_cons_succ, List.set_cons_zero] at hE4; have hE := (hE4.tail.front 2 rfl).front 2 rfl; clear hE4; simp only [List.eraseIdx_cons_succ, List.eraseIdx_cons_zero] at hE)
    | (refine wpl_storeN hE 0 rfl rfl rfl rfl rfl Try.sizeOf71 rfl (by simp [Value.oneCell']) hq ?_; clear hE; intro w3 hE; simp only [List.cons_append, List.set_cons_succ, List.set_cons_zero] at hE)
    | (first | (refine wpl_load1 hE 0 rfl rfl rfl rfl (by simp [go_sem]) rfl ?_) | (refine wpl_load1 hE 1 rfl rfl rfl rfl (by simp [go_sem]) rfl ?_) | (refine wpl_load1 hE 2 rfl rfl rfl rfl (by simp [go_sem]) rfl ?_) | (refine wpl_load1 hE 3 rfl rfl rfl rfl (by simp [go_sem]) rfl ?_) | (refine wpl_load1 hE 4 rfl rfl rfl rfl (by simp [go_sem]) rfl ?_) | (refine wpl_load1 hE 5 rfl rfl rfl rfl (by simp [go_sem]) rfl ?_)) | (first | (refine wpl_store hE 0 rfl rfl rfl rfl rfl (by simp [go_sem]; rfl) (by rfl) (by simp [Value.cells, Value.oneCell', Act.eval]) (by simp) ?_; clear hE; intro w hE; simp only [Act.eval, getD_lit, List.getD_cons_succ, List.getD_cons_zero, Value.cells, List.set_cons_zero, List.set_cons_succ, List.take_succ_cons, List.take_zero, List.nil_append, List.cons_append, List.drop_succ_cons, List.drop_zero, List.length_cons, List.length_nil, Nat.reduceAdd, Nat.zero_add] at hE) | (refine wpl_store hE 1 rfl rfl rfl rfl rfl (by simp [go_sem]; rfl) (by rfl) (by simp [Value.cells, Value.oneCell', Act.eval]) (by simp) ?_; clear hE; intro w hE; simp only [Act.eval, getD_lit, List.getD_cons_succ, List.getD_cons_zero, Value.cells, List.set_cons_zero, List.set_cons_succ, List.take_succ_cons, List.take_zero, List.nil_append, List.cons_append, List.drop_succ_cons, List.drop_zero, List.length_cons, List.length_nil, Nat.reduceAdd, Nat.zero_add] at hE) | (refine wpl_store hE 2 rfl rfl rfl rfl rfl (by simp [go_sem]; rfl) (by rfl) (by simp [Value.cells, Value.oneCell', Act.eval]) (by simp) ?_; clear hE; intro w hE; simp only [Act.eval, getD_lit, List.getD_cons_succ, List.getD_cons_zero, Value.cells, List.set_cons_zero, List.set_cons_succ, List.take_succ_cons, List.take_zero, List.nil_append, List.cons_append, List.drop_succ_cons, List.drop_zero, List.length_cons, List.length_nil, Nat.reduceAdd, Nat.zero_add] at hE) | (refine wpl_store hE 3 rfl rfl rfl rfl rfl (by simp [go_sem]; rfl) (by rfl) (by simp [Value.cells, Value.oneCell', Act.eval]) (by simp) ?_; clear hE; intro w hE; simp only [Act.eval, getD_lit, List.getD_cons_succ, List.getD_cons_zero, Value.cells, List.set_cons_zero, List.set_cons_succ, List.take_succ_cons, List.take_zero, List.nil_append, List.cons_append, List.drop_succ_cons, List.drop_zero, List.length_cons, List.length_nil, Nat.reduceAdd, Nat.zero_add] at hE) | (refine wpl_store hE 4 rfl rfl rfl rfl rfl (by simp [go_sem]; rfl) (by rfl) (by simp [Value.cells, Value.oneCell', Act.eval]) (by simp) ?_; clear hE; intro w hE; simp only [Act.eval, getD_lit, List.getD_cons_succ, List.getD_cons_zero, Value.cells, List.set_cons_zero, List.set_cons_succ, List.take_succ_cons, List.take_zero, List.nil_append, List.cons_append, List.drop_succ_cons, List.drop_zero, List.length_cons, List.length_nil, Nat.reduceAdd, Nat.zero_add] at hE) | (refine wpl_store hE 5 rfl rfl rfl rfl rfl (by simp [go_sem]; rfl) (by rfl) (by simp [Value.cells, Value.oneCell', Act.eval]) (by simp) ?_; clear hE; intro w hE; simp only [Act.eval, getD_lit, List.getD_cons_succ, List.getD_cons_zero, Value.cells, List.set_cons_zero, List.set_cons_succ, List.take_succ_cons, List.take_zero, List.nil_append, List.cons_append, List.drop_succ_cons, List.drop_zero, List.length_cons, List.length_nil, Nat.reduceAdd, Nat.zero_add] at hE)))
  have hE5 := hE.tail.tail
  have e1 : t.wait.flatMap rw2 ++ rw2 ⟨bs, k⟩ = (t.wait ++ [(⟨bs, k⟩ : Wt)]).flatMap rw2 := by simp
  have e2 : t.wait.length + 1 = (t.wait ++ [(⟨bs, k⟩ : Wt)]).length := by simp
  rw [e1] at hE5
  refine bodyPost_ret (results_cell2 rfl hE 0 rfl rfl Try.isAgg71 Try.sizeOf71 rfl rfl) rfl ⟨_, rfl, [view (.slice ao4 (t.wait.length + 1) c4) (t.wait.length + 1) ((t.wait ++ [(⟨bs, k⟩ : Wt)]).flatMap rw2)], _, rfl, ⟨ao2, c2, ao4, c4, ?_, H1.out.cons, ?_⟩, (hE5.toView 0 rfl).keepNew⟩
  · unfold rcells
    rw [← e2]
  · show Knows _ (reads (.slice ao4 (t.wait ++ [(⟨bs, k⟩ : Wt)]).length c4) (t.wait ++ [(⟨bs, k⟩ : Wt)]).length _)
    rw [← e2]
    exact knows_view _ _ _ _

theorem rWrite_any {F R : List HProp} {w : World} {s : DS} {xs : List Value} {k : Int} {bs : List UInt8} (hg : s.good) (hw : s.wait.length ≤ 1000000) (hx : refIs R xs s) (hE : Ent (F ++ R) w) :
    Calls Try.prog 85 #[.agg xs.toArray, .int .i64 k, .string ⟨bs.toArray⟩] w (Ret fun v w' => ∃ m ys, v = .tuple #[.agg ys.toArray, .int .i64 (s.writeE k bs.length)] ∧ refIs (m ++ R) ys (s.writeS k bs) ∧ Ent (F ++ (m ++ R)) w') := by
  cases hd : s.dead with
  | true =>
    rw [show s.writeE k bs.length = 4 by unfold DS.writeE; simp [hd], show s.writeS k bs = s by unfold DS.writeS; simp [hd]]
    refine (rWrite_dead hd hx hE).mono ?_
    rintro e w2 ⟨v, rfl, ys, rfl, hr, hE⟩
    exact ⟨_, rfl, [], ys, rfl, hr, hE⟩
  | false =>
    by_cases hb : 0 ≤ k ∧ k < s.on.length ∧ bs.length = 512
    · obtain ⟨m, rfl⟩ := Int.eq_ofNat_of_zero_le hb.1
      by_cases h0 : s.left = 0
      · rw [show s.writeE (m : Int) bs.length = 4 by unfold DS.writeE; rw [hd, if_pos hb, if_pos h0]; rfl, show s.writeS (m : Int) bs = s.goes s.keep by unfold DS.writeS; rw [hd, if_pos hb, if_pos h0]; rfl]
        exact rWrite_gone hg hw hd (by omega) hb.2.2 h0 hx hE
      · rw [show s.writeE (m : Int) bs.length = 0 by unfold DS.writeE; rw [hd, if_pos hb, if_neg h0]; rfl, show s.writeS (m : Int) bs = { s.acted with wait := s.wait ++ [⟨bs, m⟩] } by unfold DS.writeS; rw [hd, if_pos hb, if_neg h0]; rfl]
        exact rWrite_done hg hw hd (by omega) hb.2.2 h0 hx hE
    · rw [show s.writeE k bs.length = 2 by unfold DS.writeE; rw [hd, if_neg hb]; rfl, show s.writeS k bs = s by unfold DS.writeS; rw [hd, if_neg hb]; rfl]
      refine (rWrite_bad hd hb hx hE).mono ?_
      rintro e w2 ⟨v, rfl, ys, rfl, hr, hE⟩
      exact ⟨_, rfl, [], ys, rfl, hr, hE⟩
end Go.Proofs.Ytpchnmcofkffiaa
