/-
  The document's disk: a flush, a read, a new one.
-/
import Derived.Test.YtpchnmcofkffiaaDr3
import Derived.Deep.RegionHeld3
namespace Go.Proofs.Ytpchnmcofkffiaa
open Go.RowKit Go.SL

set_option maxRecDepth 100000 in
theorem rFlush_dead {F R : List HProp} {w : World} {s : DS} {xs : List Value} (hd : s.dead = true) (hx : refIs R xs s) (hE : Ent (F ++ R) w) :
    Calls Try.prog 49 #[.agg xs.toArray] w (Ret fun v w' => ∃ ys, v = .tuple #[.agg ys.toArray, .int .i64 4] ∧ refIs R ys s ∧ Ent (F ++ R) w') := by
  obtain ⟨ao, c, aw, d, rfl, h1, h2⟩ := hx
  have H1 := SL.hid h1
  have H2 := SL.hid h2
  have Hd := SL.hid hd
  clear h1 h2
  unfold rcells
  rw [hd]
  clear hd
  go_enter Try.func49, Try.ntmps49
  go_wp2_with (first
    | go_skip
    | (refine wpl_box hE rfl rfl rfl ?_; clear hE; intro bd w hE; simp only [Act.eval, Act.put, List.setIfInBounds_toArray, List.set_cons_zero, List.set_cons_succ, getD_lit, List.getD_cons_succ, List.getD_cons_zero, Value.cells] at hE) | (refine wpl_allocN hE rfl rfl (n := 6) (by kernel_rfl) ?_; clear hE; intro br cs w1 hq hE) | (refine wpl_loadW hE 1 rfl rfl rfl rfl Try.isAgg71 Try.sizeOf71 rfl ?_)
    | (refine wpl_storeN hE 0 rfl rfl rfl rfl rfl Try.sizeOf71 rfl (by simp [Value.oneCell']) hq ?_; clear hE; intro w3 hE; simp only [List.cons_append, List.set_cons_succ, List.set_cons_zero] at hE)
    | (first | (refine wpl_load1 hE 0 rfl rfl rfl rfl (by simp [go_sem]) rfl ?_) | (refine wpl_load1 hE 1 rfl rfl rfl rfl (by simp [go_sem]) rfl ?_) | (refine wpl_load1 hE 2 rfl rfl rfl rfl (by simp [go_sem]) rfl ?_) | (refine wpl_load1 hE 3 rfl rfl rfl rfl (by simp [go_sem]) rfl ?_) | (refine wpl_load1 hE 4 rfl rfl rfl rfl (by simp [go_sem]) rfl ?_) | (refine wpl_load1 hE 5 rfl rfl rfl rfl (by simp [go_sem]) rfl ?_)) | (first | (refine wpl_store hE 0 rfl rfl rfl rfl rfl (by simp [go_sem]; rfl) (by rfl) (by simp [Value.cells, Value.oneCell', Act.eval]) (by simp) ?_; clear hE; intro w hE; simp only [Act.eval, getD_lit, List.getD_cons_succ, List.getD_cons_zero, Value.cells, List.set_cons_zero, List.set_cons_succ, List.take_succ_cons, List.take_zero, List.nil_append, List.cons_append, List.drop_succ_cons, List.drop_zero, List.length_cons, List.length_nil, Nat.reduceAdd, Nat.zero_add] at hE) | (refine wpl_store hE 1 rfl rfl rfl rfl rfl (by simp [go_sem]; rfl) (by rfl) (by simp [Value.cells, Value.oneCell', Act.eval]) (by simp) ?_; clear hE; intro w hE; simp only [Act.eval, getD_lit, List.getD_cons_succ, List.getD_cons_zero, Value.cells, List.set_cons_zero, List.set_cons_succ, List.take_succ_cons, List.take_zero, List.nil_append, List.cons_append, List.drop_succ_cons, List.drop_zero, List.length_cons, List.length_nil, Nat.reduceAdd, Nat.zero_add] at hE) | (refine wpl_store hE 2 rfl rfl rfl rfl rfl (by simp [go_sem]; rfl) (by rfl) (by simp [Value.cells, Value.oneCell', Act.eval]) (by simp) ?_; clear hE; intro w hE; simp only [Act.eval, getD_lit, List.getD_cons_succ, List.getD_cons_zero, Value.cells, List.set_cons_zero, List.set_cons_succ, List.take_succ_cons, List.take_zero, List.nil_append, List.cons_append, List.drop_succ_cons, List.drop_zero, List.length_cons, List.length_nil, Nat.reduceAdd, Nat.zero_add] at hE) | (refine wpl_store hE 3 rfl rfl rfl rfl rfl (by simp [go_sem]; rfl) (by rfl) (by simp [Value.cells, Value.oneCell', Act.eval]) (by simp) ?_; clear hE; intro w hE; simp only [Act.eval, getD_lit, List.getD_cons_succ, List.getD_cons_zero, Value.cells, List.set_cons_zero, List.set_cons_succ, List.take_succ_cons, List.take_zero, List.nil_append, List.cons_append, List.drop_succ_cons, List.drop_zero, List.length_cons, List.length_nil, Nat.reduceAdd, Nat.zero_add] at hE) | (refine wpl_store hE 4 rfl rfl rfl rfl rfl (by simp [go_sem]; rfl) (by rfl) (by simp [Value.cells, Value.oneCell', Act.eval]) (by simp) ?_; clear hE; intro w hE; simp only [Act.eval, getD_lit, List.getD_cons_succ, List.getD_cons_zero, Value.cells, List.set_cons_zero, List.set_cons_succ, List.take_succ_cons, List.take_zero, List.nil_append, List.cons_append, List.drop_succ_cons, List.drop_zero, List.length_cons, List.length_nil, Nat.reduceAdd, Nat.zero_add] at hE) | (refine wpl_store hE 5 rfl rfl rfl rfl rfl (by simp [go_sem]; rfl) (by rfl) (by simp [Value.cells, Value.oneCell', Act.eval]) (by simp) ?_; clear hE; intro w hE; simp only [Act.eval, getD_lit, List.getD_cons_succ, List.getD_cons_zero, Value.cells, List.set_cons_zero, List.set_cons_succ, List.take_succ_cons, List.take_zero, List.nil_append, List.cons_append, List.drop_succ_cons, List.drop_zero, List.length_cons, List.length_nil, Nat.reduceAdd, Nat.zero_add] at hE)))
  refine bodyPost_ret (results_cell2 rfl hE 0 rfl rfl Try.isAgg71 Try.sizeOf71 rfl rfl) rfl ⟨_, rfl, _, rfl, ⟨ao, c, aw, d, by unfold rcells; rw [Hd.out], H1.out, H2.out⟩, hE.tail.tail⟩

set_option maxRecDepth 100000 in
theorem rFlush_gone {F R : List HProp} {w : World} {s : DS} {xs : List Value} (hg : s.good) (hw : s.wait.length ≤ 1000000) (hd : s.dead = false) (h0 : s.left = 0) (hx : refIs R xs s) (hE : Ent (F ++ R) w) :
    Calls Try.prog 49 #[.agg xs.toArray] w (Ret fun v w' => ∃ m ys, v = .tuple #[.agg ys.toArray, .int .i64 4] ∧ refIs (m ++ R) ys (s.goes s.keep) ∧ Ent (F ++ (m ++ R)) w') := by
  have Hx := SL.hid hx
  have H0 := SL.hid h0
  obtain ⟨ao, c, aw, d, rfl, h1, h2⟩ := hx
  have Hd := SL.hid hd
  clear h1 h2 h0
  unfold rcells
  unfold rcells at Hx
  rw [hd] at Hx
  rw [hd]
  clear hd
  go_enter Try.func49, Try.ntmps49
  go_wp2_with (first
    | go_skip
    | (refine wpl_box hE rfl rfl rfl ?_; clear hE; intro bd w hE; simp only [Act.eval, Act.put, List.setIfInBounds_toArray, List.set_cons_zero, List.set_cons_succ, getD_lit, List.getD_cons_succ, List.getD_cons_zero, Value.cells] at hE) | (refine wpl_allocN hE rfl rfl (n := 6) (by kernel_rfl) ?_; clear hE; intro br cs w1 hq hE) | (refine wpl_loadW hE 1 rfl rfl rfl rfl Try.isAgg71 Try.sizeOf71 rfl ?_)
    | (go_at_call 86; have H := ract_gone (F := pt br (.cells cs.toArray 71) :: pt bd (.cells #[.slice ao s.on.length c, .slice aw s.wait.length d, .bool false, .int .i64 s.left, .string s.keep, .int .u64 s.acts] 71) :: F) hg hw H0.out Hx.out hE; refine H.mono ?_; clear H hE; rintro e w2 ⟨v, rfl, m, ys, rfl, hr, hE⟩; obtain ⟨ao2, c2, aw2, d2, rfl, k1, k2⟩ := hr; have Hr := SL.hid (⟨ao2, c2, aw2, d2, rfl, k1, k2⟩ : refIs (m ++ R) _ _); clear k1 k2; unfold rcells)
    | (refine wpl_storeN hE 1 rfl rfl rfl rfl rfl Try.sizeOf71 rfl (by simp [Value.oneCell']) rfl ?_; clear hE; intro w3 hE; simp only [List.cons_append, List.set_cons_succ, List.set_cons_zero] at hE)
    | (refine wpl_storeN hE 0 rfl rfl rfl rfl rfl Try.sizeOf71 rfl (by simp [Value.oneCell']) hq ?_; clear hE; intro w3 hE; simp only [List.cons_append, List.set_cons_succ, List.set_cons_zero] at hE)
    | (first | (refine wpl_load1 hE 0 rfl rfl rfl rfl (by simp [go_sem]) rfl ?_) | (refine wpl_load1 hE 1 rfl rfl rfl rfl (by simp [go_sem]) rfl ?_) | (refine wpl_load1 hE 2 rfl rfl rfl rfl (by simp [go_sem]) rfl ?_) | (refine wpl_load1 hE 3 rfl rfl rfl rfl (by simp [go_sem]) rfl ?_) | (refine wpl_load1 hE 4 rfl rfl rfl rfl (by simp [go_sem]) rfl ?_) | (refine wpl_load1 hE 5 rfl rfl rfl rfl (by simp [go_sem]) rfl ?_)) | (first | (refine wpl_store hE 0 rfl rfl rfl rfl rfl (by simp [go_sem]; rfl) (by rfl) (by simp [Value.cells, Value.oneCell', Act.eval]) (by simp) ?_; clear hE; intro w hE; simp only [Act.eval, getD_lit, List.getD_cons_succ, List.getD_cons_zero, Value.cells, List.set_cons_zero, List.set_cons_succ, List.take_succ_cons, List.take_zero, List.nil_append, List.cons_append, List.drop_succ_cons, List.drop_zero, List.length_cons, List.length_nil, Nat.reduceAdd, Nat.zero_add] at hE) | (refine wpl_store hE 1 rfl rfl rfl rfl rfl (by simp [go_sem]; rfl) (by rfl) (by simp [Value.cells, Value.oneCell', Act.eval]) (by simp) ?_; clear hE; intro w hE; simp only [Act.eval, getD_lit, List.getD_cons_succ, List.getD_cons_zero, Value.cells, List.set_cons_zero, List.set_cons_succ, List.take_succ_cons, List.take_zero, List.nil_append, List.cons_append, List.drop_succ_cons, List.drop_zero, List.length_cons, List.length_nil, Nat.reduceAdd, Nat.zero_add] at hE) | (refine wpl_store hE 2 rfl rfl rfl rfl rfl (by simp [go_sem]; rfl) (by rfl) (by simp [Value.cells, Value.oneCell', Act.eval]) (by simp) ?_; clear hE; intro w hE; simp only [Act.eval, getD_lit, List.getD_cons_succ, List.getD_cons_zero, Value.cells, List.set_cons_zero, List.set_cons_succ, List.take_succ_cons, List.take_zero, List.nil_append, List.cons_append, List.drop_succ_cons, List.drop_zero, List.length_cons, List.length_nil, Nat.reduceAdd, Nat.zero_add] at hE) | (refine wpl_store hE 3 rfl rfl rfl rfl rfl (by simp [go_sem]; rfl) (by rfl) (by simp [Value.cells, Value.oneCell', Act.eval]) (by simp) ?_; clear hE; intro w hE; simp only [Act.eval, getD_lit, List.getD_cons_succ, List.getD_cons_zero, Value.cells, List.set_cons_zero, List.set_cons_succ, List.take_succ_cons, List.take_zero, List.nil_append, List.cons_append, List.drop_succ_cons, List.drop_zero, List.length_cons, List.length_nil, Nat.reduceAdd, Nat.zero_add] at hE) | (refine wpl_store hE 4 rfl rfl rfl rfl rfl (by simp [go_sem]; rfl) (by rfl) (by simp [Value.cells, Value.oneCell', Act.eval]) (by simp) ?_; clear hE; intro w hE; simp only [Act.eval, getD_lit, List.getD_cons_succ, List.getD_cons_zero, Value.cells, List.set_cons_zero, List.set_cons_succ, List.take_succ_cons, List.take_zero, List.nil_append, List.cons_append, List.drop_succ_cons, List.drop_zero, List.length_cons, List.length_nil, Nat.reduceAdd, Nat.zero_add] at hE) | (refine wpl_store hE 5 rfl rfl rfl rfl rfl (by simp [go_sem]; rfl) (by rfl) (by simp [Value.cells, Value.oneCell', Act.eval]) (by simp) ?_; clear hE; intro w hE; simp only [Act.eval, getD_lit, List.getD_cons_succ, List.getD_cons_zero, Value.cells, List.set_cons_zero, List.set_cons_succ, List.take_succ_cons, List.take_zero, List.nil_append, List.cons_append, List.drop_succ_cons, List.drop_zero, List.length_cons, List.length_nil, Nat.reduceAdd, Nat.zero_add] at hE)))
  refine bodyPost_ret (results_cell2 rfl hE 0 rfl rfl Try.isAgg71 Try.sizeOf71 rfl rfl) rfl ⟨_, rfl, m, _, rfl, Hr.out, hE.tail.tail⟩

def RfRel (s : DS) (bd br : Nat) (aw : Option Addr) (d : Nat) (F R : List HProp) (i : Value) (wr : World) : Prop :=
  ∃ (k : Nat) (ao : Option Addr) (c : Nat) (m : List HProp) (cs : List Value), k ≤ s.wait.length ∧ i = .int .i64 k ∧ cs.length = 6 ∧ Knows (m ++ R) (reads (.slice ao s.on.length c) s.on.length ((flushOn s.on (s.wait.take k)).map strv)) ∧
    Ent (pt br (.cells cs.toArray 71) :: pt bd (.cells #[.slice ao s.on.length c, .slice aw s.wait.length d, .bool s.dead, .int .i64 s.left, .string s.keep, .int .u64 s.acts] 71) :: (F ++ (m ++ R))) wr

set_option maxRecDepth 100000 in
set_option maxHeartbeats 1000000 in
theorem rFlush_done {F R : List HProp} {w : World} {s0 : DS} {xs : List Value} (hg : s0.good) (hw : s0.wait.length ≤ 1000000) (hd : s0.dead = false) (h0 : s0.left ≠ 0) (hx : refIs R xs s0) (hE : Ent (F ++ R) w) :
    Calls Try.prog 49 #[.agg xs.toArray] w (Ret fun v w' => ∃ m ys, v = .tuple #[.agg ys.toArray, .int .i64 0] ∧ refIs (m ++ R) ys { s0.acted with on := flushOn s0.on s0.wait, wait := [] } ∧ Ent (F ++ (m ++ R)) w') := by
  have Ha := SL.hid (fun F w (hE : Ent (F ++ R) w) => ract_done (F := F) hg h0 hx hE)
  obtain ⟨ao0, c0, aw0, d0, rfl, h1, h2⟩ := hx
  have hg2 := hg.acted
  have hw2 : s0.acted.wait.length ≤ 1000000 := hw
  clear h1 h2 h0 hg hw
  unfold rcells
  unfold rcells at Ha
  rw [hd] at Ha
  rw [hd]
  rw [show ({ s0.acted with on := flushOn s0.on s0.wait, wait := [] } : DS) = { s0.acted with on := flushOn s0.acted.on s0.acted.wait, wait := [] } from rfl]
  generalize s0.acted = s at *
  clear hd
  go_enter Try.func49, Try.ntmps49
  go_wp2_with (first
    | go_skip
    | (refine wpl_box hE rfl rfl rfl ?_; clear hE; intro bd w hE; simp only [Act.eval, Act.put, List.setIfInBounds_toArray, List.set_cons_zero, List.set_cons_succ, getD_lit, List.getD_cons_succ, List.getD_cons_zero, Value.cells] at hE) | (refine wpl_allocN hE rfl rfl (n := 6) (by kernel_rfl) ?_; clear hE; intro br cs w1 hq hE) | (refine wpl_loadW hE 1 rfl rfl rfl rfl Try.isAgg71 Try.sizeOf71 rfl ?_)
    | (go_at_call 86; have H := Ha.out (pt br (.cells cs.toArray 71) :: pt bd (.cells #[.slice ao0 s0.on.length c0, .slice aw0 s0.wait.length d0, .bool false, .int .i64 s0.left, .string s0.keep, .int .u64 s0.acts] 71) :: F) _ hE; refine H.mono ?_; clear H hE Ha; rintro e w2 ⟨v, rfl, ys, rfl, hr, hE⟩; obtain ⟨ao, c, aw, d, rfl, k1, k2⟩ := hr; have H1 := SL.hid k1; have H2 := SL.hid k2; clear k1 k2; unfold rcells)
    | (refine wpl_storeN hE 1 rfl rfl rfl rfl rfl Try.sizeOf71 rfl (by simp [Value.oneCell']) rfl ?_; clear hE; intro w3 hE; simp only [List.cons_append, List.set_cons_succ, List.set_cons_zero] at hE)
    | (first | (refine wpl_load1 hE 0 rfl rfl rfl rfl (by simp [go_sem]) rfl ?_) | (refine wpl_load1 hE 1 rfl rfl rfl rfl (by simp [go_sem]) rfl ?_) | (refine wpl_load1 hE 2 rfl rfl rfl rfl (by simp [go_sem]) rfl ?_) | (refine wpl_load1 hE 3 rfl rfl rfl rfl (by simp [go_sem]) rfl ?_) | (refine wpl_load1 hE 4 rfl rfl rfl rfl (by simp [go_sem]) rfl ?_) | (refine wpl_load1 hE 5 rfl rfl rfl rfl (by simp [go_sem]) rfl ?_)))
  go_loopw [5] (fun i wr => RfRel s bd br aw d F R i wr) (fun i _ => s.wait.length - (intOf i).toNat)
  case atStart => exact ⟨0, ao, c, [], cs, Nat.zero_le _, rfl, hq, H1.out, hE⟩
  case round =>
    clear hE hq H1
    obtain ⟨k, ao, c, m, cs, hk, rfl, hq, h1, hE⟩ := hrel
    by_cases hlt : k < s.wait.length
    · obtain ⟨b, off, rfl, hc⟩ := reads_form (H2.out _ hE.tail.tail.drop.drop) (by omega) (by rw [rw2_len]; omega)
      have hwk := hg2.wait _ (List.getElem_mem hlt)
      have hsz := hg2.size
      have Hcx := SL.hid (show ∀ j v, (rw2 s.wait[k])[j]? = some v → wr.cell? ((⟨b, off + k * 2, none⟩ : Addr).add j) = some v by
        intro j v hv
        rw [Addr.add_lit, Nat.add_assoc]
        exact hc _ _ (flatMap_at rw2 2 (fun _ => rfl) s.wait k j _ v (List.getElem?_eq_getElem hlt) hv))
      clear hc
      have Htake := SL.hid (show flushOn s.on (s.wait.take (k + 1)) = (flushOn s.on (s.wait.take k)).set (s.wait[k]).at_ (s.wait[k]).b by
        rw [List.take_succ_eq_append_getElem hlt, flushOn_snoc])
      have hlen : (flushOn s.on (s.wait.take k)).length = s.on.length := flushOn_length _ _
      have HR := SL.hid (fun wr ao c m cs on' (hq : cs.length = 6) (e : on' = flushOn s.on (s.wait.take (k + 1))) (h1 : Knows (m ++ R) (reads (.slice ao s.on.length c) s.on.length (on'.map strv))) (hE : Ent (pt br (.cells cs.toArray 71) :: pt bd (.cells #[.slice ao s.on.length c, .slice (some ⟨b, off, none⟩) s.wait.length d, .bool s.dead, .int .i64 s.left, .string s.keep, .int .u64 s.acts] 71) :: (F ++ (m ++ R))) wr) =>
        (⟨k + 1, ao, c, m, cs, hlt, by simp, hq, e ▸ h1, hE⟩ : RfRel s bd br (some ⟨b, off, none⟩) d F R (.int .i64 ((k : Int) + 1)) wr))
      generalize flushOn s.on (s.wait.take k) = on at *
      generalize s.wait[k] = x at *
      obtain ⟨hx1, hx2⟩ := hwk
      have Hlen := SL.hid hlen
      have Hk1 := SL.hid h1
      clear hx1 hlen h1
      go_wp2_with (first | go_skip | (first | (refine wpl_load1 hE 0 rfl rfl rfl rfl (by simp [go_sem]) rfl ?_) | (refine wpl_load1 hE 1 rfl rfl rfl rfl (by simp [go_sem]) rfl ?_) | (refine wpl_load1 hE 2 rfl rfl rfl rfl (by simp [go_sem]) rfl ?_) | (refine wpl_load1 hE 3 rfl rfl rfl rfl (by simp [go_sem]) rfl ?_) | (refine wpl_load1 hE 4 rfl rfl rfl rfl (by simp [go_sem]) rfl ?_) | (refine wpl_load1 hE 5 rfl rfl rfl rfl (by simp [go_sem]) rfl ?_)))
      have hED := hE.drew
      have d1 := hED.cell 1 rfl 1
      simp only [List.getElem?_toArray, List.getElem?_cons_zero, List.getElem?_cons_succ] at d1
      (refine wp_region_still_tail 6 (by kernel_rfl) (by kernel_rfl) ?_; simp only [List.take_succ_cons, List.take_zero, List.drop_succ_cons, List.drop_zero])
      change wpStill _ _ wr.drew _ _ _
      repeat (first
        | (refine wpStill_step (fun K hK => ?_); refine still_loadW hED 1 rfl rfl rfl rfl Try.isAgg71 Try.sizeOf71 [.slice ao s.on.length c, .slice (some ⟨b, off, none⟩) s.wait.length d, .bool s.dead, .int .i64 s.left, .string s.keep, .int .u64 s.acts] rfl (fun j hj => rfl) ?_; refine hK _ ?_; clear hK K)
        | (refine wpStill_step (fun K hK => ?_); refine still_loadR rfl rfl rfl Try.isAgg130 Try.sizeOf130 (rw2 x) rfl Hcx.out ?_; refine hK _ ?_; clear hK K)
        | still_step)
      (refine wpStill_nil ?_)
      clear hE d1
      go_wp2_with (first
        | go_skip
        | (go_at_call 87; have H := rput_any (F := pt br (.cells cs.toArray 71) :: pt bd (.cells #[.slice ao s.on.length c, .slice (some ⟨b, off, none⟩) s.wait.length d, .bool s.dead, .int .i64 s.left, .string s.keep, .int .u64 s.acts] 71) :: F) (bs := x.b) (aw := some ⟨b, off, none⟩) (m := s.wait.length) (d := d) (dead := s.dead) (left := s.left) (keep := s.keep) (acts := s.acts) Hlen.out.symm hx2 hsz Hk1.out hED; refine H.mono ?_; clear H hED; rintro e w2 ⟨v, rfl, ao2, c2, V, rfl, hk2, hE⟩)
        | (refine wpl_storeN hE 1 rfl rfl rfl rfl rfl Try.sizeOf71 rfl (by simp [Value.oneCell']) rfl ?_; clear hE; intro w3 hE; simp only [List.cons_append, List.set_cons_succ, List.set_cons_zero] at hE))
      go_roundw
      case rel => exact HR.out _ ao2 c2 (V :: m) _ _ hq Htake.out.symm hk2 hE
      case measure => simp [intOf]; omega
    · have hk2 : k = s.wait.length := by omega
      subst hk2
      rw [List.take_length] at h1
      have Hk1 := SL.hid h1
      clear h1
      go_wp2_with (first
        | go_skip
        | (refine wpl_loadW hE 1 rfl rfl rfl rfl Try.isAgg71 Try.sizeOf71 rfl ?_)
        | (refine wpl_storeN hE 0 rfl rfl rfl rfl rfl Try.sizeOf71 rfl (by simp [Value.oneCell']) hq ?_; clear hE; intro w3 hE; simp only [List.cons_append, List.set_cons_succ, List.set_cons_zero] at hE)
        | (first | (refine wpl_load1 hE 0 rfl rfl rfl rfl (by simp [go_sem]) rfl ?_) | (refine wpl_load1 hE 1 rfl rfl rfl rfl (by simp [go_sem]) rfl ?_) | (refine wpl_load1 hE 2 rfl rfl rfl rfl (by simp [go_sem]) rfl ?_) | (refine wpl_load1 hE 3 rfl rfl rfl rfl (by simp [go_sem]) rfl ?_) | (refine wpl_load1 hE 4 rfl rfl rfl rfl (by simp [go_sem]) rfl ?_) | (refine wpl_load1 hE 5 rfl rfl rfl rfl (by simp [go_sem]) rfl ?_)) | (first | (refine wpl_store hE 0 rfl rfl rfl rfl rfl (by simp [go_sem]; rfl) (by rfl) (by simp [Value.cells, Value.oneCell', Act.eval]) (by simp) ?_; clear hE; intro w hE; simp only [Act.eval, getD_lit, List.getD_cons_succ, List.getD_cons_zero, Value.cells, List.set_cons_zero, List.set_cons_succ, List.take_succ_cons, List.take_zero, List.nil_append, List.cons_append, List.drop_succ_cons, List.drop_zero, List.length_cons, List.length_nil, Nat.reduceAdd, Nat.zero_add] at hE) | (refine wpl_store hE 1 rfl rfl rfl rfl rfl (by simp [go_sem]; rfl) (by rfl) (by simp [Value.cells, Value.oneCell', Act.eval]) (by simp) ?_; clear hE; intro w hE; simp only [Act.eval, getD_lit, List.getD_cons_succ, List.getD_cons_zero, Value.cells, List.set_cons_zero, List.set_cons_succ, List.take_succ_cons, List.take_zero, List.nil_append, List.cons_append, List.drop_succ_cons, List.drop_zero, List.length_cons, List.length_nil, Nat.reduceAdd, Nat.zero_add] at hE) | (refine wpl_store hE 2 rfl rfl rfl rfl rfl (by simp [go_sem]; rfl) (by rfl) (by simp [Value.cells, Value.oneCell', Act.eval]) (by simp) ?_; clear hE; intro w hE; simp only [Act.eval, getD_lit, List.getD_cons_succ, List.getD_cons_zero, Value.cells, List.set_cons_zero, List.set_cons_succ, List.take_succ_cons, List.take_zero, List.nil_append, List.cons_append, List.drop_succ_cons, List.drop_zero, List.length_cons, List.length_nil, Nat.reduceAdd, Nat.zero_add] at hE) | (refine wpl_store hE 3 rfl rfl rfl rfl rfl (by simp [go_sem]; rfl) (by rfl) (by simp [Value.cells, Value.oneCell', Act.eval]) (by simp) ?_; clear hE; intro w hE; simp only [Act.eval, getD_lit, List.getD_cons_succ, List.getD_cons_zero, Value.cells, List.set_cons_zero, List.set_cons_succ, List.take_succ_cons, List.take_zero, List.nil_append, List.cons_append, List.drop_succ_cons, List.drop_zero, List.length_cons, List.length_nil, Nat.reduceAdd, Nat.zero_add] at hE) | (refine wpl_store hE 4 rfl rfl rfl rfl rfl (by simp [go_sem]; rfl) (by rfl) (by simp [Value.cells, Value.oneCell', Act.eval]) (by simp) ?_; clear hE; intro w hE; simp only [Act.eval, getD_lit, List.getD_cons_succ, List.getD_cons_zero, Value.cells, List.set_cons_zero, List.set_cons_succ, List.take_succ_cons, List.take_zero, List.nil_append, List.cons_append, List.drop_succ_cons, List.drop_zero, List.length_cons, List.length_nil, Nat.reduceAdd, Nat.zero_add] at hE) | (refine wpl_store hE 5 rfl rfl rfl rfl rfl (by simp [go_sem]; rfl) (by rfl) (by simp [Value.cells, Value.oneCell', Act.eval]) (by simp) ?_; clear hE; intro w hE; simp only [Act.eval, getD_lit, List.getD_cons_succ, List.getD_cons_zero, Value.cells, List.set_cons_zero, List.set_cons_succ, List.take_succ_cons, List.take_zero, List.nil_append, List.cons_append, List.drop_succ_cons, List.drop_zero, List.length_cons, List.length_nil, Nat.reduceAdd, Nat.zero_add] at hE)))
      refine bodyPost_ret (results_cell2 rfl hE 0 rfl rfl Try.isAgg71 Try.sizeOf71 rfl rfl) rfl ⟨_, rfl, m, _, rfl, ?_, hE.tail.tail⟩
      refine ⟨ao, c, none, 0, ?_, ?_, fun _ _ => reads_nil 0 0 rfl _⟩
      · unfold rcells
        simp [flushOn_length]
      · simp only [flushOn_length]
        exact Hk1.out

theorem rFlush_any {F R : List HProp} {w : World} {s : DS} {xs : List Value} (hg : s.good) (hw : s.wait.length ≤ 1000000) (hx : refIs R xs s) (hE : Ent (F ++ R) w) :
    Calls Try.prog 49 #[.agg xs.toArray] w (Ret fun v w' => ∃ m ys, v = .tuple #[.agg ys.toArray, .int .i64 s.flushE] ∧ refIs (m ++ R) ys s.flushS ∧ Ent (F ++ (m ++ R)) w') := by
  cases hd : s.dead with
  | true =>
    rw [show s.flushE = 4 by unfold DS.flushE; simp [hd], show s.flushS = s by unfold DS.flushS; simp [hd]]
    refine (rFlush_dead hd hx hE).mono ?_
    rintro e w2 ⟨v, rfl, ys, rfl, hr, hE⟩
    exact ⟨_, rfl, [], ys, rfl, hr, hE⟩
  | false =>
    by_cases h0 : s.left = 0
    · rw [show s.flushE = 4 by unfold DS.flushE; simp [h0], show s.flushS = s.goes s.keep by unfold DS.flushS; rw [hd, if_neg (by decide), if_pos h0]]
      exact rFlush_gone hg hw hd h0 hx hE
    · rw [show s.flushE = 0 by unfold DS.flushE; simp [hd, h0], show s.flushS = { s.acted with on := flushOn s.on s.wait, wait := [] } by unfold DS.flushS; rw [hd, if_neg (by decide), if_neg h0]]
      exact rFlush_done hg hw hd h0 hx hE
end Go.Proofs.Ytpchnmcofkffiaa
