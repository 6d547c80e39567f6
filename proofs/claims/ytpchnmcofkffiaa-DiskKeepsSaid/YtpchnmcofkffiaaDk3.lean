/-
  The power's going, an act, and a flush of the disk.
-/
import Derived.Test.YtpchnmcofkffiaaDk2
import Derived.Deep.RegionLaw
import Derived.Test.YtpchnmcofkffiaaSlg
namespace Go.Proofs.Ytpchnmcofkffiaa
open Go.RowKit Go.SL

theorem wcells_len (x : Wt) (h : x.b.length = 512) : (wcells x).length = 513 := by simp [wcells, bvals_length, h]

def GoesRel (s : DS) (keep : ByteArray) (p : Nat) (ao aw : Option Addr) (c d : Nat) (l : List HProp) (i : Value) (wr : World) : Prop :=
  ∃ k : Nat, k ≤ s.wait.length ∧ i = .int .i64 k ∧ Ent (pt p (.cells #[.int .i64 s.left, .string s.keep, .slice ao s.on.length c, .slice aw s.wait.length d, .bool s.dead, .int .u64 s.acts] 112) ::
      row 114 512 (.slice ao s.on.length c) s.on.length ((goesFrom keep 0 (s.wait.take k) s.on).flatMap bvals) :: row 116 513 (.slice aw s.wait.length d) s.wait.length (s.wait.flatMap wcells) :: l) wr

theorem wcells_at (x : Wt) (h : x.b.length = 512) : (wcells x)[512]? = some (.int .i64 (x.at_ : Nat)) := by
  rw [wcells, List.getElem?_append_right (by rw [bvals_length]; omega), bvals_length, h]
  rfl
theorem wcells_low (x : Wt) (h : x.b.length = 512) (j : Nat) (hj : j < 512) : (wcells x)[j]? = (bvals x.b)[j]? := by
  rw [wcells, List.getElem?_append_left (by rw [bvals_length]; omega)]
theorem wcells_one (x : Wt) : ∀ u ∈ wcells x, u.oneCell' = true := by
  intro u hu
  simp only [wcells, List.mem_append, List.mem_singleton] at hu
  rcases hu with hu | rfl
  · exact bvals_one _ u hu
  · rfl
theorem keepBit_in (keep : ByteArray) (k : Nat) (h : k / 8 < keep.size) : keepBit keep k = (bits .and .u8 (((keep[k / 8]'h).toNat : Int) / 2 ^ (k % 8)) 1 == 1) := by
  rw [SL.and_one _ _ (keep[k / 8]'h).toNat_lt, keepBit, dif_pos h]
theorem keepBit_out (keep : ByteArray) (k : Nat) (h : ¬ k / 8 < keep.size) : keepBit keep k = false := by
  rw [keepBit, dif_neg h]
theorem goes_take (keep : ByteArray) (ws : List Wt) (k : Nat) (h : k < ws.length) (on : List (List UInt8)) : goesFrom keep 0 (ws.take (k + 1)) on = if keepBit keep k then (goesFrom keep 0 (ws.take k) on).set (ws[k]).at_ (ws[k]).b else goesFrom keep 0 (ws.take k) on := by
  rw [List.take_succ_eq_append_getElem h, goesFrom_snoc, List.length_take, Nat.zero_add, Nat.min_eq_left (by omega)]

set_option maxRecDepth 100000 in
set_option maxHeartbeats 1000000 in
theorem goes_any {l : List HProp} {w : World} {p : Nat} {s : DS} (keep : ByteArray) (hg : s.good) (hE : Ent (disk p s :: l) w) :
    Calls Try.prog 77 #[.pointer (some ⟨p, 0, none⟩), .string keep] w (fun e w' => e = .returned (.tuple #[]) ∧ Ent (disk p (s.goes keep) :: l) w') := by
  obtain ⟨ao, c, aw, d, hE⟩ := disk_open hE
  have hmax : s.wait.length ≤ 9223372036854775807 := by
    by_cases h0 : 0 < s.wait.length
    · obtain ⟨_, _, h1, h2⟩ := hE.rowIs 2 rfl h0
      unfold maxLen at h2
      omega
    · omega
  go_enter Try.func77, Try.ntmps77
  go_wp2_with ((first | (refine wpl_load1 hE 0 rfl rfl rfl rfl (by simp [go_sem]) rfl ?_) | (refine wpl_load1 hE 1 rfl rfl rfl rfl (by simp [go_sem]) rfl ?_) | (refine wpl_load1 hE 2 rfl rfl rfl rfl (by simp [go_sem]) rfl ?_) | (refine wpl_load1 hE 3 rfl rfl rfl rfl (by simp [go_sem]) rfl ?_) | (refine wpl_load1 hE 4 rfl rfl rfl rfl (by simp [go_sem]) rfl ?_) | (refine wpl_load1 hE 5 rfl rfl rfl rfl (by simp [go_sem]) rfl ?_)))
  go_loopw [11] (fun i wr => GoesRel s keep p ao aw c d l i wr) (fun i _ => s.wait.length - (intOf i).toNat)
  case atStart => exact ⟨0, Nat.zero_le _, rfl, hE⟩
  case round =>
    clear hE
    obtain ⟨k, hk, rfl, hE⟩ := hrel
    by_cases hlt : k < s.wait.length
    · obtain ⟨b, off, rfl, hc⟩ := reads_form (reads_row hE 2 rfl) (by omega) (by rw [flatMap_len' wcells 513 _ (fun x hx => wcells_len x (hg.wait x hx).1)]; omega)
      have hwk := hg.wait _ (List.getElem_mem hlt)
      have hcx : ∀ j v, (wcells s.wait[k])[j]? = some v → wr.cell? ((⟨b, off + k * 513, none⟩ : Addr).add j) = some v := by
        intro j v hv
        rw [Addr.add_lit, Nat.add_assoc]
        exact hc _ _ (flatMap_at' wcells 513 s.wait (fun x hx => wcells_len x (hg.wait x hx).1) k j _ v (List.getElem?_eq_getElem hlt) hv)
      have Hcx := SL.hid hcx
      clear hcx hc
      have Htake := SL.hid (goes_take keep s.wait k hlt s.on)
      have hon : ∀ y ∈ goesFrom keep 0 (s.wait.take k) s.on, (bvals y).length = 512 := fun y hy => by
        rw [bvals_length]
        exact goesFrom_all keep (fun b => b.length = 512) _ 0 _ hg.on (fun w hw => (hg.wait w (List.mem_of_mem_take hw)).1) y hy
      have hlen : (goesFrom keep 0 (s.wait.take k) s.on).length = s.on.length := goesFrom_length _ _ _ _
      have Hrel : ∀ wr on', on' = goesFrom keep 0 (s.wait.take (k + 1)) s.on → Ent (pt p (.cells #[.int .i64 s.left, .string s.keep, .slice ao s.on.length c, .slice (some ⟨b, off, none⟩) s.wait.length d, .bool s.dead, .int .u64 s.acts] 112) ::
          row 114 512 (.slice ao s.on.length c) s.on.length (on'.flatMap bvals) :: row 116 513 (.slice (some ⟨b, off, none⟩) s.wait.length d) s.wait.length (s.wait.flatMap wcells) :: l) wr →
          GoesRel s keep p ao (some ⟨b, off, none⟩) c d l (.int .i64 ((k : Int) + 1)) wr := fun wr on' e hE => ⟨k + 1, hlt, by simp, e ▸ hE⟩
      generalize goesFrom keep 0 (s.wait.take k) s.on = on at *
      generalize s.wait[k] = x at *
      obtain ⟨hx1, hx2⟩ := hwk
      have Hx1 := SL.hid hx1
      have Hl := SL.hid (wcells_len x hx1)
      have Hon := SL.hid hon
      have Hlen := SL.hid hlen
      have HR := SL.hid Hrel
      clear hon hlen hx1 Hrel
      by_cases h8 : k / 8 < keep.size
      · have hkb := keepBit_in keep k h8
        cases hb : (bits .and .u8 (((keep[k / 8]'h8).toNat : Int) / 2 ^ (k % 8)) 1 == 1) with
        | true =>
          rw [hb] at hkb
          have Hkb := SL.hid hkb
          clear hkb
          obtain ⟨g, rfl, _, _⟩ := hE.rowIs 1 rfl (by omega)
          go_wp2_with (first
            | go_skip
            | (refine wpl_loadC rfl rfl rfl Try.isAgg116 Try.sizeOf116 (wcells x) Hl.out Hcx.out ?_)
            | (refine wpl_allocN hE rfl rfl (n := 513) (by kernel_rfl) ?_; intro q cs w1 hq hE1; clear hE)
            | (refine wpl_storeN hE1 0 rfl rfl rfl rfl rfl Try.sizeOf116 Hl.out (wcells_one x) hq ?_; clear hE1; intro w2 hE; simp only [List.set_cons_zero] at hE))
          have hED := hE.drew
          have d1 := hED.cell 1 rfl 2
          have d2 := hED.cell 0 rfl 512
          rw [List.getElem?_toArray, wcells_at x Hx1.out] at d2
          simp only [List.getElem?_toArray, List.getElem?_cons_zero, List.getElem?_cons_succ] at d1
          (refine wp_region_still_tail 9 (by kernel_rfl) (by kernel_rfl) ?_; simp only [List.take_succ_cons, List.take_zero, List.drop_succ_cons, List.drop_zero])
          change wpStill _ _ w2.drew _ _ _
          repeat (first
            | (refine wpStill_step (fun K hK => ?_); refine still_loadW hED 0 rfl rfl rfl rfl Try.isAgg114 Try.sizeOf114 (bvals x.b) (by rw [bvals_length]; exact Hx1.out) (fun j hj => wcells_low x Hx1.out j hj) ?_; refine hK _ ?_; clear hK K)
            | still_step)
          (refine wpStill_nil ?_)
          refine wpl_storeRowA hED 2 (bvals x.b) rfl rfl rfl rfl rfl Try.sizeOf114 (by rw [bvals_length]; exact Hx1.out) (bvals_one _) (by omega) ?_
          clear hE hED d1 d2
          intro w3 hE
          simp only [List.set_cons_zero, List.set_cons_succ] at hE
          go_wp2
          go_roundw
          case rel =>
            rw [show (bvals x.b) = bvals x.b from rfl, splice_flatMap bvals 512 on x.at_ x.b Hon.out (by rw [bvals_length]; exact Hx1.out) (by rw [Hlen.out]; exact hx2)] at hE
            exact HR.out _ _ (by rw [Htake.out, if_pos Hkb.out]) hE.tail
          case measure => simp [intOf]; omega
        | false =>
          rw [hb] at hkb
          have Hkb := SL.hid hkb
          clear hkb
          go_wp2_with (first
            | go_skip
            | (refine wpl_loadC rfl rfl rfl Try.isAgg116 Try.sizeOf116 (wcells x) Hl.out Hcx.out ?_)
            | (refine wpl_allocN hE rfl rfl (n := 513) (by kernel_rfl) ?_; intro q cs w1 hq hE1; clear hE)
            | (refine wpl_storeN hE1 0 rfl rfl rfl rfl rfl Try.sizeOf116 Hl.out (wcells_one x) hq ?_; clear hE1; intro w2 hE; simp only [List.set_cons_zero] at hE))
          go_roundw
          case rel => exact HR.out _ _ (by rw [Htake.out, if_neg (by rw [Hkb.out]; decide)]) hE.tail
          case measure => simp [intOf]; omega
      · have Hkb := SL.hid (keepBit_out keep k h8)
        go_wp2_with (first
          | go_skip
          | (refine wpl_loadC rfl rfl rfl Try.isAgg116 Try.sizeOf116 (wcells x) Hl.out Hcx.out ?_)
          | (refine wpl_allocN hE rfl rfl (n := 513) (by kernel_rfl) ?_; intro q cs w1 hq hE1; clear hE)
          | (refine wpl_storeN hE1 0 rfl rfl rfl rfl rfl Try.sizeOf116 Hl.out (wcells_one x) hq ?_; clear hE1; intro w2 hE; simp only [List.set_cons_zero] at hE))
        go_roundw
        case rel => exact HR.out _ _ (by rw [Htake.out, if_neg (by rw [Hkb.out]; decide)]) hE.tail
        case measure => simp [intOf]; omega
    · have hk2 : k = s.wait.length := by omega
      subst hk2
      rw [List.take_length] at hE
      go_wp2_with (first | go_skip | (first | (refine wpl_store hE 0 rfl rfl rfl rfl rfl (by simp [go_sem]; rfl) (by rfl) (by simp [Value.cells, Value.oneCell', Act.eval]) (by simp) ?_; clear hE; intro w hE; simp only [Act.eval, getD_lit, List.getD_cons_succ, List.getD_cons_zero, Value.cells, List.set_cons_zero, List.set_cons_succ, List.take_succ_cons, List.take_zero, List.nil_append, List.cons_append, List.drop_succ_cons, List.drop_zero, List.length_cons, List.length_nil, Nat.reduceAdd, Nat.zero_add] at hE) | (refine wpl_store hE 1 rfl rfl rfl rfl rfl (by simp [go_sem]; rfl) (by rfl) (by simp [Value.cells, Value.oneCell', Act.eval]) (by simp) ?_; clear hE; intro w hE; simp only [Act.eval, getD_lit, List.getD_cons_succ, List.getD_cons_zero, Value.cells, List.set_cons_zero, List.set_cons_succ, List.take_succ_cons, List.take_zero, List.nil_append, List.cons_append, List.drop_succ_cons, List.drop_zero, List.length_cons, List.length_nil, Nat.reduceAdd, Nat.zero_add] at hE) | (refine wpl_store hE 2 rfl rfl rfl rfl rfl (by simp [go_sem]; rfl) (by rfl) (by simp [Value.cells, Value.oneCell', Act.eval]) (by simp) ?_; clear hE; intro w hE; simp only [Act.eval, getD_lit, List.getD_cons_succ, List.getD_cons_zero, Value.cells, List.set_cons_zero, List.set_cons_succ, List.take_succ_cons, List.take_zero, List.nil_append, List.cons_append, List.drop_succ_cons, List.drop_zero, List.length_cons, List.length_nil, Nat.reduceAdd, Nat.zero_add] at hE) | (refine wpl_store hE 3 rfl rfl rfl rfl rfl (by simp [go_sem]; rfl) (by rfl) (by simp [Value.cells, Value.oneCell', Act.eval]) (by simp) ?_; clear hE; intro w hE; simp only [Act.eval, getD_lit, List.getD_cons_succ, List.getD_cons_zero, Value.cells, List.set_cons_zero, List.set_cons_succ, List.take_succ_cons, List.take_zero, List.nil_append, List.cons_append, List.drop_succ_cons, List.drop_zero, List.length_cons, List.length_nil, Nat.reduceAdd, Nat.zero_add] at hE) | (refine wpl_store hE 4 rfl rfl rfl rfl rfl (by simp [go_sem]; rfl) (by rfl) (by simp [Value.cells, Value.oneCell', Act.eval]) (by simp) ?_; clear hE; intro w hE; simp only [Act.eval, getD_lit, List.getD_cons_succ, List.getD_cons_zero, Value.cells, List.set_cons_zero, List.set_cons_succ, List.take_succ_cons, List.take_zero, List.nil_append, List.cons_append, List.drop_succ_cons, List.drop_zero, List.length_cons, List.length_nil, Nat.reduceAdd, Nat.zero_add] at hE) | (refine wpl_store hE 5 rfl rfl rfl rfl rfl (by simp [go_sem]; rfl) (by rfl) (by simp [Value.cells, Value.oneCell', Act.eval]) (by simp) ?_; clear hE; intro w hE; simp only [Act.eval, getD_lit, List.getD_cons_succ, List.getD_cons_zero, Value.cells, List.set_cons_zero, List.set_cons_succ, List.take_succ_cons, List.take_zero, List.nil_append, List.cons_append, List.drop_succ_cons, List.drop_zero, List.length_cons, List.length_nil, Nat.reduceAdd, Nat.zero_add] at hE)))
      go_end0
      refine ⟨rfl, ?_⟩
      have hE := (hE.erase 2).nil 116 513
      have hE := (hE.front 1 rfl).perm ((List.Perm.swap _ _ _).cons _)
      rw [← goesFrom_length keep s.wait 0 s.on] at hE
      exact disk_close (s := s.goes keep) hE

set_option maxRecDepth 100000 in
set_option maxHeartbeats 1000000 in
/-- an act that is done -/
theorem act_done {l : List HProp} {w : World} {p : Nat} {s : DS} (hg : s.good) (h0 : s.left ≠ 0) (hE : Ent (disk p s :: l) w) :
    Calls Try.prog 73 #[.pointer (some ⟨p, 0, none⟩)] w (Ret fun v w' => v = .int .i64 0 ∧ Ent (disk p s.acted :: l) w') := by
  obtain ⟨ao, c, aw, d, hE⟩ := disk_open hE
  have h1 : (s.left == 0) = false := by simpa using h0
  have h2 := hg.left
  have h3 := hg.max
  by_cases h4 : 0 < s.left
  · have e : s.acted = ⟨s.left - 1, s.keep, s.on, s.wait, s.dead, (s.acts + 1) % 18446744073709551616⟩ := by unfold DS.acted; rw [if_pos h4]
    rw [e]
    clear e
    go_enter Try.func73, Try.ntmps73
    go_wp2_with (first | go_skip | (first | (refine wpl_load1 hE 0 rfl rfl rfl rfl (by simp [go_sem]) rfl ?_) | (refine wpl_load1 hE 1 rfl rfl rfl rfl (by simp [go_sem]) rfl ?_) | (refine wpl_load1 hE 2 rfl rfl rfl rfl (by simp [go_sem]) rfl ?_) | (refine wpl_load1 hE 3 rfl rfl rfl rfl (by simp [go_sem]) rfl ?_) | (refine wpl_load1 hE 4 rfl rfl rfl rfl (by simp [go_sem]) rfl ?_) | (refine wpl_load1 hE 5 rfl rfl rfl rfl (by simp [go_sem]) rfl ?_)) | (first | (refine wpl_store hE 0 rfl rfl rfl rfl rfl (by simp [go_sem]; rfl) (by rfl) (by simp [Value.cells, Value.oneCell', Act.eval]) (by simp) ?_; clear hE; intro w hE; simp only [Act.eval, getD_lit, List.getD_cons_succ, List.getD_cons_zero, Value.cells, List.set_cons_zero, List.set_cons_succ, List.take_succ_cons, List.take_zero, List.nil_append, List.cons_append, List.drop_succ_cons, List.drop_zero, List.length_cons, List.length_nil, Nat.reduceAdd, Nat.zero_add] at hE) | (refine wpl_store hE 1 rfl rfl rfl rfl rfl (by simp [go_sem]; rfl) (by rfl) (by simp [Value.cells, Value.oneCell', Act.eval]) (by simp) ?_; clear hE; intro w hE; simp only [Act.eval, getD_lit, List.getD_cons_succ, List.getD_cons_zero, Value.cells, List.set_cons_zero, List.set_cons_succ, List.take_succ_cons, List.take_zero, List.nil_append, List.cons_append, List.drop_succ_cons, List.drop_zero, List.length_cons, List.length_nil, Nat.reduceAdd, Nat.zero_add] at hE) | (refine wpl_store hE 2 rfl rfl rfl rfl rfl (by simp [go_sem]; rfl) (by rfl) (by simp [Value.cells, Value.oneCell', Act.eval]) (by simp) ?_; clear hE; intro w hE; simp only [Act.eval, getD_lit, List.getD_cons_succ, List.getD_cons_zero, Value.cells, List.set_cons_zero, List.set_cons_succ, List.take_succ_cons, List.take_zero, List.nil_append, List.cons_append, List.drop_succ_cons, List.drop_zero, List.length_cons, List.length_nil, Nat.reduceAdd, Nat.zero_add] at hE) | (refine wpl_store hE 3 rfl rfl rfl rfl rfl (by simp [go_sem]; rfl) (by rfl) (by simp [Value.cells, Value.oneCell', Act.eval]) (by simp) ?_; clear hE; intro w hE; simp only [Act.eval, getD_lit, List.getD_cons_succ, List.getD_cons_zero, Value.cells, List.set_cons_zero, List.set_cons_succ, List.take_succ_cons, List.take_zero, List.nil_append, List.cons_append, List.drop_succ_cons, List.drop_zero, List.length_cons, List.length_nil, Nat.reduceAdd, Nat.zero_add] at hE) | (refine wpl_store hE 4 rfl rfl rfl rfl rfl (by simp [go_sem]; rfl) (by rfl) (by simp [Value.cells, Value.oneCell', Act.eval]) (by simp) ?_; clear hE; intro w hE; simp only [Act.eval, getD_lit, List.getD_cons_succ, List.getD_cons_zero, Value.cells, List.set_cons_zero, List.set_cons_succ, List.take_succ_cons, List.take_zero, List.nil_append, List.cons_append, List.drop_succ_cons, List.drop_zero, List.length_cons, List.length_nil, Nat.reduceAdd, Nat.zero_add] at hE) | (refine wpl_store hE 5 rfl rfl rfl rfl rfl (by simp [go_sem]; rfl) (by rfl) (by simp [Value.cells, Value.oneCell', Act.eval]) (by simp) ?_; clear hE; intro w hE; simp only [Act.eval, getD_lit, List.getD_cons_succ, List.getD_cons_zero, Value.cells, List.set_cons_zero, List.set_cons_succ, List.take_succ_cons, List.take_zero, List.nil_append, List.cons_append, List.drop_succ_cons, List.drop_zero, List.length_cons, List.length_nil, Nat.reduceAdd, Nat.zero_add] at hE)))
    go_ret
    exact ⟨_, rfl, rfl, disk_close (s := ⟨s.left - 1, s.keep, s.on, s.wait, s.dead, (s.acts + 1) % 18446744073709551616⟩) hE⟩
  · have e : s.acted = ⟨s.left, s.keep, s.on, s.wait, s.dead, (s.acts + 1) % 18446744073709551616⟩ := by unfold DS.acted; rw [if_neg h4]
    rw [e]
    clear e
    go_enter Try.func73, Try.ntmps73
    go_wp2_with (first | go_skip | (first | (refine wpl_load1 hE 0 rfl rfl rfl rfl (by simp [go_sem]) rfl ?_) | (refine wpl_load1 hE 1 rfl rfl rfl rfl (by simp [go_sem]) rfl ?_) | (refine wpl_load1 hE 2 rfl rfl rfl rfl (by simp [go_sem]) rfl ?_) | (refine wpl_load1 hE 3 rfl rfl rfl rfl (by simp [go_sem]) rfl ?_) | (refine wpl_load1 hE 4 rfl rfl rfl rfl (by simp [go_sem]) rfl ?_) | (refine wpl_load1 hE 5 rfl rfl rfl rfl (by simp [go_sem]) rfl ?_)) | (first | (refine wpl_store hE 0 rfl rfl rfl rfl rfl (by simp [go_sem]; rfl) (by rfl) (by simp [Value.cells, Value.oneCell', Act.eval]) (by simp) ?_; clear hE; intro w hE; simp only [Act.eval, getD_lit, List.getD_cons_succ, List.getD_cons_zero, Value.cells, List.set_cons_zero, List.set_cons_succ, List.take_succ_cons, List.take_zero, List.nil_append, List.cons_append, List.drop_succ_cons, List.drop_zero, List.length_cons, List.length_nil, Nat.reduceAdd, Nat.zero_add] at hE) | (refine wpl_store hE 1 rfl rfl rfl rfl rfl (by simp [go_sem]; rfl) (by rfl) (by simp [Value.cells, Value.oneCell', Act.eval]) (by simp) ?_; clear hE; intro w hE; simp only [Act.eval, getD_lit, List.getD_cons_succ, List.getD_cons_zero, Value.cells, List.set_cons_zero, List.set_cons_succ, List.take_succ_cons, List.take_zero, List.nil_append, List.cons_append, List.drop_succ_cons, List.drop_zero, List.length_cons, List.length_nil, Nat.reduceAdd, Nat.zero_add] at hE) | (refine wpl_store hE 2 rfl rfl rfl rfl rfl (by simp [go_sem]; rfl) (by rfl) (by simp [Value.cells, Value.oneCell', Act.eval]) (by simp) ?_; clear hE; intro w hE; simp only [Act.eval, getD_lit, List.getD_cons_succ, List.getD_cons_zero, Value.cells, List.set_cons_zero, List.set_cons_succ, List.take_succ_cons, List.take_zero, List.nil_append, List.cons_append, List.drop_succ_cons, List.drop_zero, List.length_cons, List.length_nil, Nat.reduceAdd, Nat.zero_add] at hE) | (refine wpl_store hE 3 rfl rfl rfl rfl rfl (by simp [go_sem]; rfl) (by rfl) (by simp [Value.cells, Value.oneCell', Act.eval]) (by simp) ?_; clear hE; intro w hE; simp only [Act.eval, getD_lit, List.getD_cons_succ, List.getD_cons_zero, Value.cells, List.set_cons_zero, List.set_cons_succ, List.take_succ_cons, List.take_zero, List.nil_append, List.cons_append, List.drop_succ_cons, List.drop_zero, List.length_cons, List.length_nil, Nat.reduceAdd, Nat.zero_add] at hE) | (refine wpl_store hE 4 rfl rfl rfl rfl rfl (by simp [go_sem]; rfl) (by rfl) (by simp [Value.cells, Value.oneCell', Act.eval]) (by simp) ?_; clear hE; intro w hE; simp only [Act.eval, getD_lit, List.getD_cons_succ, List.getD_cons_zero, Value.cells, List.set_cons_zero, List.set_cons_succ, List.take_succ_cons, List.take_zero, List.nil_append, List.cons_append, List.drop_succ_cons, List.drop_zero, List.length_cons, List.length_nil, Nat.reduceAdd, Nat.zero_add] at hE) | (refine wpl_store hE 5 rfl rfl rfl rfl rfl (by simp [go_sem]; rfl) (by rfl) (by simp [Value.cells, Value.oneCell', Act.eval]) (by simp) ?_; clear hE; intro w hE; simp only [Act.eval, getD_lit, List.getD_cons_succ, List.getD_cons_zero, Value.cells, List.set_cons_zero, List.set_cons_succ, List.take_succ_cons, List.take_zero, List.nil_append, List.cons_append, List.drop_succ_cons, List.drop_zero, List.length_cons, List.length_nil, Nat.reduceAdd, Nat.zero_add] at hE)))
    go_ret
    exact ⟨_, rfl, rfl, disk_close (s := ⟨s.left, s.keep, s.on, s.wait, s.dead, (s.acts + 1) % 18446744073709551616⟩) hE⟩

set_option maxRecDepth 100000 in
set_option maxHeartbeats 1000000 in
/-- the power goes at an act -/
theorem act_gone {l : List HProp} {w : World} {p : Nat} {s : DS} (hg : s.good) (h0 : s.left = 0) (hE : Ent (disk p s :: l) w) :
    Calls Try.prog 73 #[.pointer (some ⟨p, 0, none⟩)] w (Ret fun v w' => v = .int .i64 4 ∧ Ent (disk p (s.goes s.keep) :: l) w') := by
  obtain ⟨ao, c, aw, d, hE⟩ := disk_open hE
  have h1 : (s.left == 0) = true := by simpa using h0
  clear h0
  go_enter Try.func73, Try.ntmps73
  go_wp2_with (first | go_skip | (first | (refine wpl_load1 hE 0 rfl rfl rfl rfl (by simp [go_sem]) rfl ?_) | (refine wpl_load1 hE 1 rfl rfl rfl rfl (by simp [go_sem]) rfl ?_) | (refine wpl_load1 hE 2 rfl rfl rfl rfl (by simp [go_sem]) rfl ?_) | (refine wpl_load1 hE 3 rfl rfl rfl rfl (by simp [go_sem]) rfl ?_) | (refine wpl_load1 hE 4 rfl rfl rfl rfl (by simp [go_sem]) rfl ?_) | (refine wpl_load1 hE 5 rfl rfl rfl rfl (by simp [go_sem]) rfl ?_)) | (go_at_call 77; have H := goes_any s.keep hg (disk_close hE); refine H.mono ?_; clear H; rintro e w2 ⟨rfl, hE2⟩))
  go_ret
  exact ⟨_, rfl, rfl, hE2⟩

def FlushRel (s : DS) (p : Nat) (ao aw : Option Addr) (c d : Nat) (l : List HProp) (i : Value) (wr : World) : Prop :=
  ∃ k : Nat, k ≤ s.wait.length ∧ i = .int .i64 k ∧ Ent (pt p (.cells #[.int .i64 s.left, .string s.keep, .slice ao s.on.length c, .slice aw s.wait.length d, .bool s.dead, .int .u64 s.acts] 112) ::
      row 114 512 (.slice ao s.on.length c) s.on.length ((flushOn s.on (s.wait.take k)).flatMap bvals) :: row 116 513 (.slice aw s.wait.length d) s.wait.length (s.wait.flatMap wcells) :: l) wr

theorem flush_take (ws : List Wt) (k : Nat) (h : k < ws.length) (on : List (List UInt8)) : flushOn on (ws.take (k + 1)) = (flushOn on (ws.take k)).set (ws[k]).at_ (ws[k]).b := by
  rw [List.take_succ_eq_append_getElem h, flushOn_snoc]

theorem powerE_0 {s : DS} (h : s.dead = false) : s.powerE = 0 := by unfold DS.powerE; rw [h]; rfl
theorem powerE_4 {s : DS} (h : s.dead = true) : s.powerE = 4 := by unfold DS.powerE; rw [h]; rfl
theorem power_is {l : List HProp} {w : World} {p : Nat} {s : DS} {e : Int} (he : s.powerE = e) (hE : Ent (disk p s :: l) w) : Calls Try.prog 72 #[.pointer (some ⟨p, 0, none⟩)] w (Ret fun v w' => v = .int .i64 e ∧ Ent (disk p s :: l) w') := he ▸ power_any hE

set_option maxRecDepth 100000 in
set_option maxHeartbeats 1000000 in
theorem Flush_lives {l : List HProp} {w : World} {p : Nat} {s0 : DS} (hg : s0.good) (hd : s0.dead = false) (h0 : s0.left ≠ 0) (hE : Ent (disk p s0 :: l) w) :
    Calls Try.prog 35 #[.pointer (some ⟨p, 0, none⟩)] w (Ret fun v w' => v = .int .i64 0 ∧ Ent (disk p { s0.acted with on := flushOn s0.on s0.wait, wait := [] } :: l) w') := by
  have Hp := SL.hid (powerE_0 hd)
  have hg2 := hg.acted
  have Ha := SL.hid (fun w (h : Ent (disk p s0 :: l) w) => act_done hg h0 h)
  clear hg hd h0
  have e1 : s0.on = s0.acted.on := rfl
  have e2 : s0.wait = s0.acted.wait := rfl
  rw [e1, e2]
  generalize s0.acted = s at *
  clear e1 e2
  go_enter Try.func35, Try.ntmps35
  go_wp2_with (first
    | go_skip
    | (go_at_call 72; have H := power_is Hp.out hE; refine H.mono ?_; clear H; rintro e w2 ⟨v, rfl, rfl, hE⟩)
    | (go_at_call 73; have H := Ha.out _ hE; refine H.mono ?_; clear H; rintro e w2 ⟨v, rfl, rfl, hE2⟩; clear hE Hp Ha; obtain ⟨ao, c, aw, d, hE⟩ := disk_open hE2; clear hE2)
    | (first | (refine wpl_load1 hE 0 rfl rfl rfl rfl (by simp [go_sem]) rfl ?_) | (refine wpl_load1 hE 1 rfl rfl rfl rfl (by simp [go_sem]) rfl ?_) | (refine wpl_load1 hE 2 rfl rfl rfl rfl (by simp [go_sem]) rfl ?_) | (refine wpl_load1 hE 3 rfl rfl rfl rfl (by simp [go_sem]) rfl ?_) | (refine wpl_load1 hE 4 rfl rfl rfl rfl (by simp [go_sem]) rfl ?_) | (refine wpl_load1 hE 5 rfl rfl rfl rfl (by simp [go_sem]) rfl ?_)))
  have hmax : s.wait.length ≤ 9223372036854775807 := by
    by_cases h0 : 0 < s.wait.length
    · obtain ⟨_, _, h1, h2⟩ := hE.rowIs 2 rfl h0
      unfold maxLen at h2
      omega
    · omega
  have Hg := SL.hid hg2
  clear hg2
  go_loopw [22] (fun i wr => FlushRel s p ao aw c d l i wr) (fun i _ => s.wait.length - (intOf i).toNat)
  case atStart => exact ⟨0, Nat.zero_le _, rfl, hE⟩
  case round =>
    clear hE
    obtain ⟨k, hk, rfl, hE⟩ := hrel
    have hg := Hg.out
    clear Hg
    by_cases hlt : k < s.wait.length
    · obtain ⟨b, off, rfl, hc⟩ := reads_form (reads_row hE 2 rfl) (by omega) (by rw [flatMap_len' wcells 513 _ (fun x hx => wcells_len x (hg.wait x hx).1)]; omega)
      have hwk := hg.wait _ (List.getElem_mem hlt)
      have hcx : ∀ j v, (wcells s.wait[k])[j]? = some v → wr.cell? ((⟨b, off + k * 513, none⟩ : Addr).add j) = some v := by
        intro j v hv
        rw [Addr.add_lit, Nat.add_assoc]
        exact hc _ _ (flatMap_at' wcells 513 s.wait (fun x hx => wcells_len x (hg.wait x hx).1) k j _ v (List.getElem?_eq_getElem hlt) hv)
      have Hcx := SL.hid hcx
      clear hcx hc
      have Htake := SL.hid (flush_take s.wait k hlt s.on)
      have hon : ∀ y ∈ flushOn s.on (s.wait.take k), (bvals y).length = 512 := fun y hy => by
        rw [bvals_length]
        exact flushOn_all (fun b => b.length = 512) _ _ hg.on (fun w hw => (hg.wait w (List.mem_of_mem_take hw)).1) y hy
      have hlen : (flushOn s.on (s.wait.take k)).length = s.on.length := flushOn_length _ _
      have Hrel : ∀ wr on', on' = flushOn s.on (s.wait.take (k + 1)) → Ent (pt p (.cells #[.int .i64 s.left, .string s.keep, .slice ao s.on.length c, .slice (some ⟨b, off, none⟩) s.wait.length d, .bool s.dead, .int .u64 s.acts] 112) ::
          row 114 512 (.slice ao s.on.length c) s.on.length (on'.flatMap bvals) :: row 116 513 (.slice (some ⟨b, off, none⟩) s.wait.length d) s.wait.length (s.wait.flatMap wcells) :: l) wr →
          FlushRel s p ao (some ⟨b, off, none⟩) c d l (.int .i64 ((k : Int) + 1)) wr := fun wr on' e hE => ⟨k + 1, hlt, by simp, e ▸ hE⟩
      generalize flushOn s.on (s.wait.take k) = on at *
      generalize s.wait[k] = x at *
      obtain ⟨hx1, hx2⟩ := hwk
      have Hx1 := SL.hid hx1
      have Hl := SL.hid (wcells_len x hx1)
      have Hon := SL.hid hon
      have Hlen := SL.hid hlen
      have HR := SL.hid Hrel
      clear hon hlen hx1 Hrel hg
      obtain ⟨g, rfl, _, _⟩ := hE.rowIs 1 rfl (by omega)
      go_wp2_with (first
        | go_skip
        | (refine wpl_loadC rfl rfl rfl Try.isAgg116 Try.sizeOf116 (wcells x) Hl.out Hcx.out ?_)
        | (refine wpl_allocN hE rfl rfl (n := 513) (by kernel_rfl) ?_; intro q cs w1 hq hE1; clear hE)
        | (refine wpl_storeN hE1 0 rfl rfl rfl rfl rfl Try.sizeOf116 Hl.out (wcells_one x) hq ?_; clear hE1; intro w2 hE; simp only [List.set_cons_zero] at hE))
      have hED := hE.drew
      have d1 := hED.cell 1 rfl 2
      have d2 := hED.cell 0 rfl 512
      rw [List.getElem?_toArray, wcells_at x Hx1.out] at d2
      simp only [List.getElem?_toArray, List.getElem?_cons_zero, List.getElem?_cons_succ] at d1
      (refine wp_region_still_tail 9 (by kernel_rfl) (by kernel_rfl) ?_; simp only [List.take_succ_cons, List.take_zero, List.drop_succ_cons, List.drop_zero])
      change wpStill _ _ w2.drew _ _ _
      repeat (first
        | (refine wpStill_step (fun K hK => ?_); refine still_loadW hED 0 rfl rfl rfl rfl Try.isAgg114 Try.sizeOf114 (bvals x.b) (by rw [bvals_length]; exact Hx1.out) (fun j hj => wcells_low x Hx1.out j hj) ?_; refine hK _ ?_; clear hK K)
        | still_step)
      (refine wpStill_nil ?_)
      refine wpl_storeRowA hED 2 (bvals x.b) rfl rfl rfl rfl rfl Try.sizeOf114 (by rw [bvals_length]; exact Hx1.out) (bvals_one _) (by omega) ?_
      clear hE hED d1 d2
      intro w3 hE
      simp only [List.set_cons_zero, List.set_cons_succ] at hE
      go_wp2
      go_roundw
      case rel =>
        rw [splice_flatMap bvals 512 on x.at_ x.b Hon.out (by rw [bvals_length]; exact Hx1.out) (by rw [Hlen.out]; exact hx2)] at hE
        exact HR.out _ _ Htake.out.symm hE.tail
      case measure => simp [intOf]; omega
    · have hk2 : k = s.wait.length := by omega
      subst hk2
      rw [List.take_length] at hE
      go_wp2_with (first | go_skip | (first | (refine wpl_store hE 0 rfl rfl rfl rfl rfl (by simp [go_sem]; rfl) (by rfl) (by simp [Value.cells, Value.oneCell', Act.eval]) (by simp) ?_; clear hE; intro w hE; simp only [Act.eval, getD_lit, List.getD_cons_succ, List.getD_cons_zero, Value.cells, List.set_cons_zero, List.set_cons_succ, List.take_succ_cons, List.take_zero, List.nil_append, List.cons_append, List.drop_succ_cons, List.drop_zero, List.length_cons, List.length_nil, Nat.reduceAdd, Nat.zero_add] at hE) | (refine wpl_store hE 1 rfl rfl rfl rfl rfl (by simp [go_sem]; rfl) (by rfl) (by simp [Value.cells, Value.oneCell', Act.eval]) (by simp) ?_; clear hE; intro w hE; simp only [Act.eval, getD_lit, List.getD_cons_succ, List.getD_cons_zero, Value.cells, List.set_cons_zero, List.set_cons_succ, List.take_succ_cons, List.take_zero, List.nil_append, List.cons_append, List.drop_succ_cons, List.drop_zero, List.length_cons, List.length_nil, Nat.reduceAdd, Nat.zero_add] at hE) | (refine wpl_store hE 2 rfl rfl rfl rfl rfl (by simp [go_sem]; rfl) (by rfl) (by simp [Value.cells, Value.oneCell', Act.eval]) (by simp) ?_; clear hE; intro w hE; simp only [Act.eval, getD_lit, List.getD_cons_succ, List.getD_cons_zero, Value.cells, List.set_cons_zero, List.set_cons_succ, List.take_succ_cons, List.take_zero, List.nil_append, List.cons_append, List.drop_succ_cons, List.drop_zero, List.length_cons, List.length_nil, Nat.reduceAdd, Nat.zero_add] at hE) | (refine wpl_store hE 3 rfl rfl rfl rfl rfl (by simp [go_sem]; rfl) (by rfl) (by simp [Value.cells, Value.oneCell', Act.eval]) (by simp) ?_; clear hE; intro w hE; simp only [Act.eval, getD_lit, List.getD_cons_succ, List.getD_cons_zero, Value.cells, List.set_cons_zero, List.set_cons_succ, List.take_succ_cons, List.take_zero, List.nil_append, List.cons_append, List.drop_succ_cons, List.drop_zero, List.length_cons, List.length_nil, Nat.reduceAdd, Nat.zero_add] at hE) | (refine wpl_store hE 4 rfl rfl rfl rfl rfl (by simp [go_sem]; rfl) (by rfl) (by simp [Value.cells, Value.oneCell', Act.eval]) (by simp) ?_; clear hE; intro w hE; simp only [Act.eval, getD_lit, List.getD_cons_succ, List.getD_cons_zero, Value.cells, List.set_cons_zero, List.set_cons_succ, List.take_succ_cons, List.take_zero, List.nil_append, List.cons_append, List.drop_succ_cons, List.drop_zero, List.length_cons, List.length_nil, Nat.reduceAdd, Nat.zero_add] at hE) | (refine wpl_store hE 5 rfl rfl rfl rfl rfl (by simp [go_sem]; rfl) (by rfl) (by simp [Value.cells, Value.oneCell', Act.eval]) (by simp) ?_; clear hE; intro w hE; simp only [Act.eval, getD_lit, List.getD_cons_succ, List.getD_cons_zero, Value.cells, List.set_cons_zero, List.set_cons_succ, List.take_succ_cons, List.take_zero, List.nil_append, List.cons_append, List.drop_succ_cons, List.drop_zero, List.length_cons, List.length_nil, Nat.reduceAdd, Nat.zero_add] at hE)))
      go_ret
      have hE := (hE.erase 2).nil 116 513
      have hE := (hE.front 1 rfl).perm ((List.Perm.swap _ _ _).cons _)
      rw [← flushOn_length s.wait s.on] at hE
      exact ⟨_, rfl, rfl, disk_close (s := { s with on := flushOn s.on s.wait, wait := [] }) hE⟩

set_option maxRecDepth 100000 in
theorem Flush_dead {l : List HProp} {w : World} {p : Nat} {s : DS} (hd : s.dead = true) (hE : Ent (disk p s :: l) w) :
    Calls Try.prog 35 #[.pointer (some ⟨p, 0, none⟩)] w (Ret fun v w' => v = .int .i64 4 ∧ Ent (disk p s :: l) w') := by
  have Hp := SL.hid (powerE_4 hd)
  clear hd
  go_enter Try.func35, Try.ntmps35
  go_wp2_with (first
    | go_skip
    | (go_at_call 72; have H := power_is Hp.out hE; refine H.mono ?_; clear H; rintro e w2 ⟨v, rfl, rfl, hE⟩))
  go_ret
  exact ⟨_, rfl, rfl, hE⟩

set_option maxRecDepth 100000 in
theorem Flush_gone {l : List HProp} {w : World} {p : Nat} {s : DS} (hg : s.good) (hd : s.dead = false) (h0 : s.left = 0) (hE : Ent (disk p s :: l) w) :
    Calls Try.prog 35 #[.pointer (some ⟨p, 0, none⟩)] w (Ret fun v w' => v = .int .i64 4 ∧ Ent (disk p (s.goes s.keep) :: l) w') := by
  have Hp := SL.hid (powerE_0 hd)
  have H0 := SL.hid h0
  clear hd h0
  go_enter Try.func35, Try.ntmps35
  go_wp2_with (first
    | go_skip
    | (go_at_call 72; have H := power_is Hp.out hE; refine H.mono ?_; clear H; rintro e w2 ⟨v, rfl, rfl, hE⟩)
    | (go_at_call 73; have H := act_gone hg H0.out hE; refine H.mono ?_; clear H; rintro e w2 ⟨v, rfl, rfl, hE2⟩))
  go_ret
  exact ⟨_, rfl, rfl, hE2⟩

theorem Flush_any {l : List HProp} {w : World} {p : Nat} {s : DS} (hg : s.good) (hE : Ent (disk p s :: l) w) :
    Calls Try.prog 35 #[.pointer (some ⟨p, 0, none⟩)] w (Ret fun v w' => v = .int .i64 s.flushE ∧ Ent (disk p s.flushS :: l) w') := by
  cases hd : s.dead with
  | true =>
    rw [show s.flushE = 4 by unfold DS.flushE; simp [hd], show s.flushS = s by unfold DS.flushS; simp [hd]]
    exact Flush_dead hd hE
  | false =>
    by_cases h0 : s.left = 0
    · rw [show s.flushE = 4 by unfold DS.flushE; simp [h0], show s.flushS = s.goes s.keep by unfold DS.flushS; rw [hd, if_neg (by decide), if_pos h0]]
      exact Flush_gone hg hd h0 hE
    · rw [show s.flushE = 0 by unfold DS.flushE; simp [hd, h0], show s.flushS = { s.acted with on := flushOn s.on s.wait, wait := [] } by unfold DS.flushS; rw [hd, if_neg (by decide), if_neg h0]]
      exact Flush_lives hg hd h0 hE
theorem Flush_nil {l : List HProp} {w : World} (hE : Ent l w) :
    Calls Try.prog 35 #[.pointer none] w (Ret fun v w' => v = .int .i64 1 ∧ Ent l w') := by
  go_enter Try.func35, Try.ntmps35
  go_wp2_with (first
    | go_skip
    | (go_at_call 72; have H := power_nil _ _ hE; refine H.mono ?_; clear H; rintro e w2 ⟨v, rfl, rfl, hE⟩))
  go_ret
  exact ⟨_, rfl, rfl, hE⟩
end Go.Proofs.Ytpchnmcofkffiaa
