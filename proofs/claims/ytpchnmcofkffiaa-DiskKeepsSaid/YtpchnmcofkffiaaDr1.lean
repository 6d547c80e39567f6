/-
  The document's disk: what its functions make of its value.
-/
import Derived.Test.YtpchnmcofkffiaaDk1
import Derived.Test.YtpchnmcofkffiaaFr
import Derived.Test.YtpchnmcofkffiaaSlh
namespace Go.Proofs.Ytpchnmcofkffiaa
open Go.RowKit Go.SL

def strv (b : List UInt8) : Value := .string ⟨b.toArray⟩
def rw2 (x : Wt) : List Value := [.int .i64 (x.at_ : Nat), strv x.b]
def rcells (s : DS) (ao : Option Addr) (c : Nat) (aw : Option Addr) (d : Nat) : List Value := [.slice ao s.on.length c, .slice aw s.wait.length d, .bool s.dead, .int .i64 s.left, .string s.keep, .int .u64 s.acts]
def refIs (R : List HProp) (xs : List Value) (s : DS) : Prop :=
  ∃ ao c aw d, xs = rcells s ao c aw d ∧ Knows R (reads (.slice ao s.on.length c) s.on.length (s.on.map strv)) ∧ Knows R (reads (.slice aw s.wait.length d) s.wait.length (s.wait.flatMap rw2))
theorem refIs.append {R m : List HProp} {xs : List Value} {s : DS} (h : refIs R xs s) : refIs (m ++ R) xs s := let ⟨ao, c, aw, d, e, h1, h2⟩ := h; ⟨ao, c, aw, d, e, h1.append, h2.append⟩
theorem refIs.cons {R : List HProp} {A : HProp} {xs : List Value} {s : DS} (h : refIs R xs s) : refIs (A :: R) xs s := let ⟨ao, c, aw, d, e, h1, h2⟩ := h; ⟨ao, c, aw, d, e, h1.cons, h2.cons⟩
theorem info_string : elemInfo Try.prog 9 = some (some 1, 1, 16) := by kernel_rfl
theorem info_rwrite : elemInfo Try.prog 130 = some (some 2, 2, 24) := by kernel_rfl
theorem strv_one (l : List (List UInt8)) : ∀ u ∈ l.map strv, u.oneCell' = true := by
  intro u hu
  obtain ⟨_, _, rfl⟩ := List.mem_map.1 hu
  rfl
theorem rw2_one (l : List Wt) : ∀ u ∈ l.flatMap rw2, u.oneCell' = true := by
  intro u hu
  obtain ⟨x, _, h⟩ := List.mem_flatMap.1 hu
  simp only [rw2, List.mem_cons, List.not_mem_nil, or_false] at h
  rcases h with rfl | rfl <;> rfl
theorem rw2_len (l : List Wt) : (l.flatMap rw2).length = l.length * 2 := flatMap_len rw2 2 (fun _ => rfl) l

theorem splice_map (l : List (List UInt8)) (k : Nat) (b : List UInt8) (h : k < l.length) : splice (l.map strv) k [strv b] = (l.set k b).map strv := by
  have := splice_flatMap (fun b => [strv b]) 1 l k b (fun _ _ => rfl) rfl h
  rw [Nat.mul_one] at this
  have e : ∀ l : List (List UInt8), l.flatMap (fun b => [strv b]) = l.map strv := by
    intro l
    induction l with
    | nil => rfl
    | cons x l ih => simp [List.flatMap_cons, ih]
  rwa [e, e] at this

theorem knows_view (v : Value) (n : Nat) (xs : List Value) (R : List HProp) : Knows (view v n xs :: R) (reads v n xs) := fun _ hE => hE.views 0 rfl

set_option maxRecDepth 100000 in
set_option maxHeartbeats 1000000 in
theorem rput_any {F R : List HProp} {w : World} {on : List (List UInt8)} {ao aw : Option Addr} {n c d k m : Nat} {dead : Bool} {left acts : Int} {keep : ByteArray} {bs : List UInt8} (hn : n = on.length) (hk : k < n) (hsz : n ≤ 4096)
    (h1 : Knows R (reads (.slice ao n c) n (on.map strv))) (hE : Ent (F ++ R) w) :
    Calls Try.prog 87 #[.agg #[.slice ao n c, .slice aw m d, .bool dead, .int .i64 left, .string keep, .int .u64 acts], .agg #[.int .i64 (k : Nat), .string ⟨bs.toArray⟩]] w (Ret fun v w' => ∃ ao' c' V,
      v = .agg #[.slice ao' n c', .slice aw m d, .bool dead, .int .i64 left, .string keep, .int .u64 acts] ∧ Knows (V :: R) (reads (.slice ao' n c') n ((on.set k bs).map strv)) ∧ Ent (F ++ V :: R) w') := by
  have hk1 := SL.hid (Knows.append (m := F) h1)
  have Hn := SL.hid hn
  have Hm := SL.hid (show (on.map strv).length = n * 1 by simp [hn])
  clear hn
  go_enter Try.func87, Try.ntmps87
  go_wp2_with (first
    | go_skip
    | (at_builtin; refine wpl_appendG (hE.nil 9 1) 0 rfl rfl rfl rfl rfl Try.underlying58 info_string (by decide) (m := n) (news := on.map strv) (hk1.out _ hE.tail.tail.tail) Hm.out (strv_one _) (by omega) (by omega) ?_; clear hE; intro ao1 c1 w1 hE; simp only [Nat.zero_add, List.nil_append, List.set_cons_zero] at hE; obtain ⟨g, rfl, _, _⟩ := hE.rowIs 0 rfl (by omega))
    | (refine wpl_loadW hE 3 rfl rfl rfl rfl Try.isAgg71 Try.sizeOf71 rfl ?_)
    | (refine wpl_storeN hE 1 rfl rfl rfl rfl rfl Try.sizeOf71 rfl (by simp [Value.oneCell']) rfl ?_; clear hE; intro w2 hE; simp only [List.set_cons_succ, List.set_cons_zero] at hE)
    | (refine wpl_storeRow hE 0 (v := strv bs) rfl rfl rfl rfl rfl Try.sizeOf9 (ys := [strv bs]) rfl rfl (by simp [strv, Value.oneCell']) (by omega) ?_; clear hE; intro w2 hE; simp only [List.set_cons_zero] at hE)
    | (refine wpl_box hE rfl rfl rfl ?_; clear hE; intro b w hE; simp only [Act.eval, Act.put, List.setIfInBounds_toArray, List.set_cons_zero, List.set_cons_succ, getD_lit, List.getD_cons_succ, List.getD_cons_zero, Value.cells] at hE) | (refine wpl_alloc hE rfl rfl (by simp [go_sem]; rfl) ?_; clear hE; intro b w hE; simp only [Act.eval, Act.put, List.setIfInBounds_toArray, List.set_cons_zero, List.set_cons_succ, getD_lit, List.getD_cons_succ, List.getD_cons_zero, Value.cells] at hE) | (first | (refine wpl_load1 hE 0 rfl rfl rfl rfl (by simp [go_sem]) rfl ?_) | (refine wpl_load1 hE 1 rfl rfl rfl rfl (by simp [go_sem]) rfl ?_) | (refine wpl_load1 hE 2 rfl rfl rfl rfl (by simp [go_sem]) rfl ?_) | (refine wpl_load1 hE 3 rfl rfl rfl rfl (by simp [go_sem]) rfl ?_) | (refine wpl_load1 hE 4 rfl rfl rfl rfl (by simp [go_sem]) rfl ?_) | (refine wpl_load1 hE 5 rfl rfl rfl rfl (by simp [go_sem]) rfl ?_)) | (first | (refine wpl_store hE 0 rfl rfl rfl rfl rfl (by simp [go_sem]; rfl) (by rfl) (by simp [Value.cells, Value.oneCell', Act.eval]) (by simp) ?_; clear hE; intro w hE; simp only [Act.eval, getD_lit, List.getD_cons_succ, List.getD_cons_zero, Value.cells, List.set_cons_zero, List.set_cons_succ, List.take_succ_cons, List.take_zero, List.nil_append, List.cons_append, List.drop_succ_cons, List.drop_zero, List.length_cons, List.length_nil, Nat.reduceAdd, Nat.zero_add] at hE) | (refine wpl_store hE 1 rfl rfl rfl rfl rfl (by simp [go_sem]; rfl) (by rfl) (by simp [Value.cells, Value.oneCell', Act.eval]) (by simp) ?_; clear hE; intro w hE; simp only [Act.eval, getD_lit, List.getD_cons_succ, List.getD_cons_zero, Value.cells, List.set_cons_zero, List.set_cons_succ, List.take_succ_cons, List.take_zero, List.nil_append, List.cons_append, List.drop_succ_cons, List.drop_zero, List.length_cons, List.length_nil, Nat.reduceAdd, Nat.zero_add] at hE) | (refine wpl_store hE 2 rfl rfl rfl rfl rfl (by simp [go_sem]; rfl) (by rfl) (by simp [Value.cells, Value.oneCell', Act.eval]) (by simp) ?_; clear hE; intro w hE; simp only [Act.eval, getD_lit, List.getD_cons_succ, List.getD_cons_zero, Value.cells, List.set_cons_zero, List.set_cons_succ, List.take_succ_cons, List.take_zero, List.nil_append, List.cons_append, List.drop_succ_cons, List.drop_zero, List.length_cons, List.length_nil, Nat.reduceAdd, Nat.zero_add] at hE) | (refine wpl_store hE 3 rfl rfl rfl rfl rfl (by simp [go_sem]; rfl) (by rfl) (by simp [Value.cells, Value.oneCell', Act.eval]) (by simp) ?_; clear hE; intro w hE; simp only [Act.eval, getD_lit, List.getD_cons_succ, List.getD_cons_zero, Value.cells, List.set_cons_zero, List.set_cons_succ, List.take_succ_cons, List.take_zero, List.nil_append, List.cons_append, List.drop_succ_cons, List.drop_zero, List.length_cons, List.length_nil, Nat.reduceAdd, Nat.zero_add] at hE) | (refine wpl_store hE 4 rfl rfl rfl rfl rfl (by simp [go_sem]; rfl) (by rfl) (by simp [Value.cells, Value.oneCell', Act.eval]) (by simp) ?_; clear hE; intro w hE; simp only [Act.eval, getD_lit, List.getD_cons_succ, List.getD_cons_zero, Value.cells, List.set_cons_zero, List.set_cons_succ, List.take_succ_cons, List.take_zero, List.nil_append, List.cons_append, List.drop_succ_cons, List.drop_zero, List.length_cons, List.length_nil, Nat.reduceAdd, Nat.zero_add] at hE) | (refine wpl_store hE 5 rfl rfl rfl rfl rfl (by simp [go_sem]; rfl) (by rfl) (by simp [Value.cells, Value.oneCell', Act.eval]) (by simp) ?_; clear hE; intro w hE; simp only [Act.eval, getD_lit, List.getD_cons_succ, List.getD_cons_zero, Value.cells, List.set_cons_zero, List.set_cons_succ, List.take_succ_cons, List.take_zero, List.nil_append, List.cons_append, List.drop_succ_cons, List.drop_zero, List.length_cons, List.length_nil, Nat.reduceAdd, Nat.zero_add] at hE)))
  refine bodyPost_ret (results_cellA rfl hE 1 rfl rfl Try.isAgg71 Try.sizeOf71 rfl) rfl ⟨_, rfl, some ⟨g, 0, none⟩, c1, view (.slice (some ⟨g, 0, none⟩) n c1) n ((on.set k bs).map strv), rfl, knows_view _ _ _ _, ?_⟩
  rw [splice_map _ _ _ (Hn.out ▸ hk)] at hE
  exact ((((hE.erase 1).erase 1).erase 1).toView 0 rfl).keepNew

theorem keepBit_ref (keep : ByteArray) (k : Nat) (h : k / 8 < keep.size) : keepBit keep k = ((((keep[k / 8]'h).toNat : Int) / 2 ^ (k % 8)).tmod 2 == 1) := by
  rw [keepBit, dif_pos h, Bool.eq_iff_iff]
  simp only [beq_iff_eq]
  generalize (keep[k / 8]'h).toNat = x
  generalize k % 8 = m
  have e : ((x : Int) / 2 ^ m) = ((x / 2 ^ m : Nat) : Int) := by push_cast; rfl
  rw [e, Int.tmod_eq_emod_of_nonneg (Int.natCast_nonneg _)]
  generalize x / 2 ^ m = y
  omega

def RgRel (s : DS) (keep : ByteArray) (bd br : Nat) (aw : Option Addr) (d : Nat) (F R : List HProp) (i : Value) (wr : World) : Prop :=
  ∃ (k : Nat) (ao : Option Addr) (c : Nat) (m : List HProp) (cs : List Value), k ≤ s.wait.length ∧ i = .int .i64 k ∧ cs.length = 6 ∧ Knows (m ++ R) (reads (.slice ao s.on.length c) s.on.length ((goesFrom keep 0 (s.wait.take k) s.on).map strv)) ∧
    Ent (pt br (.cells cs.toArray 71) :: pt bd (.cells #[.slice ao s.on.length c, .slice aw s.wait.length d, .bool s.dead, .int .i64 s.left, .string s.keep, .int .u64 s.acts] 71) :: (F ++ (m ++ R))) wr

set_option maxRecDepth 100000 in
set_option maxHeartbeats 1000000 in
theorem rgoes_any {F R : List HProp} {w : World} {s : DS} {xs : List Value} (keep : ByteArray) (hg : s.good) (hw : s.wait.length ≤ 1000000) (hx : refIs R xs s) (hE : Ent (F ++ R) w) :
    Calls Try.prog 94 #[.agg xs.toArray, .string keep] w (Ret fun v w' => ∃ m ys, v = .agg ys.toArray ∧ refIs (m ++ R) ys (s.goes keep) ∧ Ent (F ++ (m ++ R)) w') := by
  obtain ⟨ao, c, aw, d, rfl, h1, h2⟩ := hx
  have H1 := SL.hid h1
  have H2 := SL.hid h2
  clear h1 h2
  unfold rcells
  go_enter Try.func94, Try.ntmps94
  go_wp2_with (first
    | go_skip
    | (refine wpl_box hE rfl rfl rfl ?_; clear hE; intro bd w hE; simp only [Act.eval, Act.put, List.setIfInBounds_toArray, List.set_cons_zero, List.set_cons_succ, getD_lit, List.getD_cons_succ, List.getD_cons_zero, Value.cells] at hE)
    | (refine wpl_allocN hE rfl rfl (n := 6) (by kernel_rfl) ?_; clear hE; intro br cs w1 hq hE)
    | (first | (refine wpl_load1 hE 0 rfl rfl rfl rfl (by simp [go_sem]) rfl ?_) | (refine wpl_load1 hE 1 rfl rfl rfl rfl (by simp [go_sem]) rfl ?_) | (refine wpl_load1 hE 2 rfl rfl rfl rfl (by simp [go_sem]) rfl ?_) | (refine wpl_load1 hE 3 rfl rfl rfl rfl (by simp [go_sem]) rfl ?_) | (refine wpl_load1 hE 4 rfl rfl rfl rfl (by simp [go_sem]) rfl ?_) | (refine wpl_load1 hE 5 rfl rfl rfl rfl (by simp [go_sem]) rfl ?_)))
  go_loopw [6] (fun i wr => RgRel s keep bd br aw d F R i wr) (fun i _ => s.wait.length - (intOf i).toNat)
  case atStart => exact ⟨0, ao, c, [], cs, Nat.zero_le _, rfl, hq, H1.out, hE⟩
  case round =>
    clear hE hq H1
    obtain ⟨k, ao, c, m, cs, hk, rfl, hq, h1, hE⟩ := hrel
    by_cases hlt : k < s.wait.length
    · obtain ⟨b, off, rfl, hc⟩ := reads_form (H2.out _ hE.tail.tail.drop.drop) (by omega) (by rw [rw2_len]; omega)
      have hwk := hg.wait _ (List.getElem_mem hlt)
      have Hcx := SL.hid (show ∀ j v, (rw2 s.wait[k])[j]? = some v → wr.cell? ((⟨b, off + k * 2, none⟩ : Addr).add j) = some v by
        intro j v hv
        rw [Addr.add_lit, Nat.add_assoc]
        exact hc _ _ (flatMap_at rw2 2 (fun _ => rfl) s.wait k j _ v (List.getElem?_eq_getElem hlt) hv))
      clear hc
      have Htake := SL.hid (show goesFrom keep 0 (s.wait.take (k + 1)) s.on = if keepBit keep k then (goesFrom keep 0 (s.wait.take k) s.on).set (s.wait[k]).at_ (s.wait[k]).b else goesFrom keep 0 (s.wait.take k) s.on by
        rw [List.take_succ_eq_append_getElem hlt, goesFrom_snoc, List.length_take, Nat.zero_add, Nat.min_eq_left (by omega)])
      have hlen : (goesFrom keep 0 (s.wait.take k) s.on).length = s.on.length := goesFrom_length _ _ _ _
      have HR := SL.hid (fun wr ao c m cs on' (hq : cs.length = 6) (e : on' = goesFrom keep 0 (s.wait.take (k + 1)) s.on) (h1 : Knows (m ++ R) (reads (.slice ao s.on.length c) s.on.length (on'.map strv))) (hE : Ent (pt br (.cells cs.toArray 71) :: pt bd (.cells #[.slice ao s.on.length c, .slice (some ⟨b, off, none⟩) s.wait.length d, .bool s.dead, .int .i64 s.left, .string s.keep, .int .u64 s.acts] 71) :: (F ++ (m ++ R))) wr) =>
        (⟨k + 1, ao, c, m, cs, hlt, by simp, hq, e ▸ h1, hE⟩ : RgRel s keep bd br (some ⟨b, off, none⟩) d F R (.int .i64 ((k : Int) + 1)) wr))
      generalize goesFrom keep 0 (s.wait.take k) s.on = on at *
      generalize s.wait[k] = x at *
      obtain ⟨hx1, hx2⟩ := hwk
      have Hlen := SL.hid hlen
      have Hk1 := SL.hid h1
      clear hx1 hlen h1
      by_cases h8 : k / 8 < keep.size
      · have hkb := keepBit_ref keep k h8
        cases hb : ((((keep[k / 8]'h8).toNat : Int) / 2 ^ (k % 8)).tmod 2 == 1) with
        | true =>
          rw [hb] at hkb
          have Hkb := SL.hid hkb
          clear hkb
          go_wp2_with (first | go_skip)
          have hED := hE.drew
          (refine wp_region_still_tail 5 (by kernel_rfl) (by kernel_rfl) ?_; simp only [List.take_succ_cons, List.take_zero, List.drop_succ_cons, List.drop_zero])
          change wpStill _ _ wr.drew _ _ _
          repeat (first
            | (refine wpStill_step (fun K hK => ?_); refine still_loadW hED 1 rfl rfl rfl rfl Try.isAgg71 Try.sizeOf71 [.slice ao s.on.length c, .slice (some ⟨b, off, none⟩) s.wait.length d, .bool s.dead, .int .i64 s.left, .string s.keep, .int .u64 s.acts] rfl (fun j hj => rfl) ?_; refine hK _ ?_; clear hK K)
            | (refine wpStill_step (fun K hK => ?_); refine still_loadR rfl rfl rfl Try.isAgg130 Try.sizeOf130 (rw2 x) rfl Hcx.out ?_; refine hK _ ?_; clear hK K)
            | still_step)
          (refine wpStill_nil ?_)
          clear hE
          go_wp2_with (first
            | go_skip
            | (go_at_call 87; have H := rput_any (F := pt br (.cells cs.toArray 71) :: pt bd (.cells #[.slice ao s.on.length c, .slice (some ⟨b, off, none⟩) s.wait.length d, .bool s.dead, .int .i64 s.left, .string s.keep, .int .u64 s.acts] 71) :: F) (bs := x.b) (aw := some ⟨b, off, none⟩) (m := s.wait.length) (d := d) (dead := s.dead) (left := s.left) (keep := s.keep) (acts := s.acts) Hlen.out.symm hx2 hg.size Hk1.out hED; refine H.mono ?_; clear H hED; rintro e w2 ⟨v, rfl, ao2, c2, V, rfl, hk2, hE⟩)
            | (refine wpl_storeN hE 1 rfl rfl rfl rfl rfl Try.sizeOf71 rfl (by simp [Value.oneCell']) rfl ?_; clear hE; intro w3 hE; simp only [List.cons_append, List.set_cons_succ, List.set_cons_zero] at hE))
          go_roundw
          case rel => exact HR.out _ ao2 c2 (V :: m) _ _ hq (by rw [Htake.out, if_pos Hkb.out]) hk2 hE
          case measure => simp [intOf]; omega
        | false =>
          rw [hb] at hkb
          have Hkb := SL.hid hkb
          clear hkb
          go_wp2_with (first | go_skip)
          go_roundw
          case rel => exact HR.out _ _ _ _ _ _ hq (by rw [Htake.out, if_neg (by rw [Hkb.out]; decide)]) Hk1.out hE
          case measure => simp [intOf]; omega
      · have Hkb := SL.hid (show keepBit keep k = false by rw [keepBit, dif_neg h8])
        go_wp2_with (first | go_skip)
        go_roundw
        case rel => exact HR.out _ _ _ _ _ _ hq (by rw [Htake.out, if_neg (by rw [Hkb.out]; decide)]) Hk1.out hE
        case measure => simp [intOf]; omega
    · have hk2 : k = s.wait.length := by omega
      subst hk2
      rw [List.take_length] at h1
      have Hk1 := SL.hid h1
      clear h1
      go_wp2_with (first
        | go_skip
        | (refine wpl_loadW hE 1 rfl rfl rfl rfl Try.isAgg71 Try.sizeOf71 rfl ?_)
        | (refine wpl_storeN hE 0 rfl rfl rfl rfl rfl Try.sizeOf71 rfl (by simp [Value.oneCell']) hq ?_; clear hE; intro w2 hE; simp only [List.set_cons_succ, List.set_cons_zero] at hE)
        | (first | (refine wpl_store hE 0 rfl rfl rfl rfl rfl (by simp [go_sem]; rfl) (by rfl) (by simp [Value.cells, Value.oneCell', Act.eval]) (by simp) ?_; clear hE; intro w hE; simp only [Act.eval, getD_lit, List.getD_cons_succ, List.getD_cons_zero, Value.cells, List.set_cons_zero, List.set_cons_succ, List.take_succ_cons, List.take_zero, List.nil_append, List.cons_append, List.drop_succ_cons, List.drop_zero, List.length_cons, List.length_nil, Nat.reduceAdd, Nat.zero_add] at hE) | (refine wpl_store hE 1 rfl rfl rfl rfl rfl (by simp [go_sem]; rfl) (by rfl) (by simp [Value.cells, Value.oneCell', Act.eval]) (by simp) ?_; clear hE; intro w hE; simp only [Act.eval, getD_lit, List.getD_cons_succ, List.getD_cons_zero, Value.cells, List.set_cons_zero, List.set_cons_succ, List.take_succ_cons, List.take_zero, List.nil_append, List.cons_append, List.drop_succ_cons, List.drop_zero, List.length_cons, List.length_nil, Nat.reduceAdd, Nat.zero_add] at hE) | (refine wpl_store hE 2 rfl rfl rfl rfl rfl (by simp [go_sem]; rfl) (by rfl) (by simp [Value.cells, Value.oneCell', Act.eval]) (by simp) ?_; clear hE; intro w hE; simp only [Act.eval, getD_lit, List.getD_cons_succ, List.getD_cons_zero, Value.cells, List.set_cons_zero, List.set_cons_succ, List.take_succ_cons, List.take_zero, List.nil_append, List.cons_append, List.drop_succ_cons, List.drop_zero, List.length_cons, List.length_nil, Nat.reduceAdd, Nat.zero_add] at hE) | (refine wpl_store hE 3 rfl rfl rfl rfl rfl (by simp [go_sem]; rfl) (by rfl) (by simp [Value.cells, Value.oneCell', Act.eval]) (by simp) ?_; clear hE; intro w hE; simp only [Act.eval, getD_lit, List.getD_cons_succ, List.getD_cons_zero, Value.cells, List.set_cons_zero, List.set_cons_succ, List.take_succ_cons, List.take_zero, List.nil_append, List.cons_append, List.drop_succ_cons, List.drop_zero, List.length_cons, List.length_nil, Nat.reduceAdd, Nat.zero_add] at hE) | (refine wpl_store hE 4 rfl rfl rfl rfl rfl (by simp [go_sem]; rfl) (by rfl) (by simp [Value.cells, Value.oneCell', Act.eval]) (by simp) ?_; clear hE; intro w hE; simp only [Act.eval, getD_lit, List.getD_cons_succ, List.getD_cons_zero, Value.cells, List.set_cons_zero, List.set_cons_succ, List.take_succ_cons, List.take_zero, List.nil_append, List.cons_append, List.drop_succ_cons, List.drop_zero, List.length_cons, List.length_nil, Nat.reduceAdd, Nat.zero_add] at hE) | (refine wpl_store hE 5 rfl rfl rfl rfl rfl (by simp [go_sem]; rfl) (by rfl) (by simp [Value.cells, Value.oneCell', Act.eval]) (by simp) ?_; clear hE; intro w hE; simp only [Act.eval, getD_lit, List.getD_cons_succ, List.getD_cons_zero, Value.cells, List.set_cons_zero, List.set_cons_succ, List.take_succ_cons, List.take_zero, List.nil_append, List.cons_append, List.drop_succ_cons, List.drop_zero, List.length_cons, List.length_nil, Nat.reduceAdd, Nat.zero_add] at hE)))
      refine bodyPost_ret (results_cellA rfl hE 0 rfl rfl Try.isAgg71 Try.sizeOf71 rfl) rfl ⟨_, rfl, m, _, rfl, ?_, hE.tail.tail⟩
      refine ⟨ao, c, none, 0, ?_, ?_, fun _ _ => reads_nil 0 0 rfl _⟩
      · unfold rcells
        simp [DS.goes, goesFrom_length]
      · simp only [DS.goes, goesFrom_length]
        exact Hk1.out

set_option maxRecDepth 100000 in
/-- an act of the document's disk -/
theorem ract_gone {F R : List HProp} {w : World} {s : DS} {xs : List Value} (hg : s.good) (hw : s.wait.length ≤ 1000000) (h0 : s.left = 0) (hx : refIs R xs s) (hE : Ent (F ++ R) w) :
    Calls Try.prog 86 #[.agg xs.toArray] w (Ret fun v w' => ∃ m ys, v = .tuple #[.agg ys.toArray, .bool false] ∧ refIs (m ++ R) ys (s.goes s.keep) ∧ Ent (F ++ (m ++ R)) w') := by
  have Hx := SL.hid hx
  obtain ⟨ao, c, aw, d, rfl, h1, h2⟩ := hx
  have H0 : (s.left == 0) = true := by simpa using h0
  clear h0 h1 h2
  unfold rcells
  go_enter Try.func86, Try.ntmps86
  go_wp2_with (first
    | go_skip
    | (refine wpl_box hE rfl rfl rfl ?_; clear hE; intro bd w hE; simp only [Act.eval, Act.put, List.setIfInBounds_toArray, List.set_cons_zero, List.set_cons_succ, getD_lit, List.getD_cons_succ, List.getD_cons_zero, Value.cells] at hE)
    | (refine wpl_allocN hE rfl rfl (n := 6) (by kernel_rfl) ?_; clear hE; intro br cs w1 hq hE)
    | (refine wpl_loadW hE 1 rfl rfl rfl rfl Try.isAgg71 Try.sizeOf71 rfl ?_)
    | (go_at_call 94; have H := rgoes_any (F := pt br (.cells cs.toArray 71) :: pt bd (.cells #[.slice ao s.on.length c, .slice aw s.wait.length d, .bool s.dead, .int .i64 s.left, .string s.keep, .int .u64 s.acts] 71) :: F) s.keep hg hw Hx.out hE; refine H.mono ?_; clear H hE; rintro e w2 ⟨v, rfl, m, ys, rfl, hr, hE⟩; obtain ⟨ao2, c2, aw2, d2, rfl, k1, k2⟩ := hr; have Hr := SL.hid (⟨ao2, c2, aw2, d2, rfl, k1, k2⟩ : refIs (m ++ R) _ _); clear k1 k2)
    | (refine wpl_storeN hE 0 rfl rfl rfl rfl rfl Try.sizeOf71 rfl (by simp [rcells, Value.oneCell']) hq ?_; clear hE; intro w3 hE; simp only [List.cons_append, List.set_cons_succ, List.set_cons_zero] at hE)
    | (first | (refine wpl_load1 hE 0 rfl rfl rfl rfl (by simp [go_sem]) rfl ?_) | (refine wpl_load1 hE 1 rfl rfl rfl rfl (by simp [go_sem]) rfl ?_) | (refine wpl_load1 hE 2 rfl rfl rfl rfl (by simp [go_sem]) rfl ?_) | (refine wpl_load1 hE 3 rfl rfl rfl rfl (by simp [go_sem]) rfl ?_) | (refine wpl_load1 hE 4 rfl rfl rfl rfl (by simp [go_sem]) rfl ?_) | (refine wpl_load1 hE 5 rfl rfl rfl rfl (by simp [go_sem]) rfl ?_)))
  refine bodyPost_ret (results_cell2 rfl hE 0 rfl rfl Try.isAgg71 Try.sizeOf71 rfl rfl) rfl ⟨_, rfl, m, _, rfl, Hr.out, hE.tail.tail⟩

set_option maxRecDepth 100000 in
theorem ract_done {F R : List HProp} {w : World} {s : DS} {xs : List Value} (hg : s.good) (h0 : s.left ≠ 0) (hx : refIs R xs s) (hE : Ent (F ++ R) w) :
    Calls Try.prog 86 #[.agg xs.toArray] w (Ret fun v w' => ∃ ys, v = .tuple #[.agg ys.toArray, .bool true] ∧ refIs R ys s.acted ∧ Ent (F ++ R) w') := by
  obtain ⟨ao, c, aw, d, rfl, h1, h2⟩ := hx
  have H1 := SL.hid h1
  have H2 := SL.hid h2
  have H0 : (s.left == 0) = false := by simpa using h0
  have hl := hg.left
  have hm := hg.max
  clear h1 h2
  unfold rcells
  by_cases h4 : 0 < s.left
  · have e : s.acted = ⟨s.left - 1, s.keep, s.on, s.wait, s.dead, (s.acts + 1) % 18446744073709551616⟩ := by unfold DS.acted; rw [if_pos h4]
    rw [e]
    clear e
    go_enter Try.func86, Try.ntmps86
    go_wp2_with (first
      | go_skip
      | (refine wpl_box hE rfl rfl rfl ?_; clear hE; intro bd w hE; simp only [Act.eval, Act.put, List.setIfInBounds_toArray, List.set_cons_zero, List.set_cons_succ, getD_lit, List.getD_cons_succ, List.getD_cons_zero, Value.cells] at hE)
      | (refine wpl_allocN hE rfl rfl (n := 6) (by kernel_rfl) ?_; clear hE; intro br cs w1 hq hE)
      | (refine wpl_loadW hE 1 rfl rfl rfl rfl Try.isAgg71 Try.sizeOf71 rfl ?_)
      | (refine wpl_storeN hE 0 rfl rfl rfl rfl rfl Try.sizeOf71 rfl (by simp [Value.oneCell']) hq ?_; clear hE; intro w3 hE; simp only [List.set_cons_succ, List.set_cons_zero] at hE)
      | (first | (refine wpl_load1 hE 0 rfl rfl rfl rfl (by simp [go_sem]) rfl ?_) | (refine wpl_load1 hE 1 rfl rfl rfl rfl (by simp [go_sem]) rfl ?_) | (refine wpl_load1 hE 2 rfl rfl rfl rfl (by simp [go_sem]) rfl ?_) | (refine wpl_load1 hE 3 rfl rfl rfl rfl (by simp [go_sem]) rfl ?_) | (refine wpl_load1 hE 4 rfl rfl rfl rfl (by simp [go_sem]) rfl ?_) | (refine wpl_load1 hE 5 rfl rfl rfl rfl (by simp [go_sem]) rfl ?_)) | (first | (refine wpl_store hE 0 rfl rfl rfl rfl rfl (by simp [go_sem]; rfl) (by rfl) (by simp [Value.cells, Value.oneCell', Act.eval]) (by simp) ?_; clear hE; intro w hE; simp only [Act.eval, getD_lit, List.getD_cons_succ, List.getD_cons_zero, Value.cells, List.set_cons_zero, List.set_cons_succ, List.take_succ_cons, List.take_zero, List.nil_append, List.cons_append, List.drop_succ_cons, List.drop_zero, List.length_cons, List.length_nil, Nat.reduceAdd, Nat.zero_add] at hE) | (refine wpl_store hE 1 rfl rfl rfl rfl rfl (by simp [go_sem]; rfl) (by rfl) (by simp [Value.cells, Value.oneCell', Act.eval]) (by simp) ?_; clear hE; intro w hE; simp only [Act.eval, getD_lit, List.getD_cons_succ, List.getD_cons_zero, Value.cells, List.set_cons_zero, List.set_cons_succ, List.take_succ_cons, List.take_zero, List.nil_append, List.cons_append, List.drop_succ_cons, List.drop_zero, List.length_cons, List.length_nil, Nat.reduceAdd, Nat.zero_add] at hE) | (refine wpl_store hE 2 rfl rfl rfl rfl rfl (by simp [go_sem]; rfl) (by rfl) (by simp [Value.cells, Value.oneCell', Act.eval]) (by simp) ?_; clear hE; intro w hE; simp only [Act.eval, getD_lit, List.getD_cons_succ, List.getD_cons_zero, Value.cells, List.set_cons_zero, List.set_cons_succ, List.take_succ_cons, List.take_zero, List.nil_append, List.cons_append, List.drop_succ_cons, List.drop_zero, List.length_cons, List.length_nil, Nat.reduceAdd, Nat.zero_add] at hE) | (refine wpl_store hE 3 rfl rfl rfl rfl rfl (by simp [go_sem]; rfl) (by rfl) (by simp [Value.cells, Value.oneCell', Act.eval]) (by simp) ?_; clear hE; intro w hE; simp only [Act.eval, getD_lit, List.getD_cons_succ, List.getD_cons_zero, Value.cells, List.set_cons_zero, List.set_cons_succ, List.take_succ_cons, List.take_zero, List.nil_append, List.cons_append, List.drop_succ_cons, List.drop_zero, List.length_cons, List.length_nil, Nat.reduceAdd, Nat.zero_add] at hE) | (refine wpl_store hE 4 rfl rfl rfl rfl rfl (by simp [go_sem]; rfl) (by rfl) (by simp [Value.cells, Value.oneCell', Act.eval]) (by simp) ?_; clear hE; intro w hE; simp only [Act.eval, getD_lit, List.getD_cons_succ, List.getD_cons_zero, Value.cells, List.set_cons_zero, List.set_cons_succ, List.take_succ_cons, List.take_zero, List.nil_append, List.cons_append, List.drop_succ_cons, List.drop_zero, List.length_cons, List.length_nil, Nat.reduceAdd, Nat.zero_add] at hE) | (refine wpl_store hE 5 rfl rfl rfl rfl rfl (by simp [go_sem]; rfl) (by rfl) (by simp [Value.cells, Value.oneCell', Act.eval]) (by simp) ?_; clear hE; intro w hE; simp only [Act.eval, getD_lit, List.getD_cons_succ, List.getD_cons_zero, Value.cells, List.set_cons_zero, List.set_cons_succ, List.take_succ_cons, List.take_zero, List.nil_append, List.cons_append, List.drop_succ_cons, List.drop_zero, List.length_cons, List.length_nil, Nat.reduceAdd, Nat.zero_add] at hE)))
    refine bodyPost_ret (results_cell2 rfl hE 0 rfl rfl Try.isAgg71 Try.sizeOf71 rfl rfl) rfl ⟨_, rfl, _, rfl, ⟨ao, c, aw, d, rfl, H1.out, H2.out⟩, hE.tail.tail⟩
  · have e : s.acted = ⟨s.left, s.keep, s.on, s.wait, s.dead, (s.acts + 1) % 18446744073709551616⟩ := by unfold DS.acted; rw [if_neg h4]
    rw [e]
    clear e
    go_enter Try.func86, Try.ntmps86
    go_wp2_with (first
      | go_skip
      | (refine wpl_box hE rfl rfl rfl ?_; clear hE; intro bd w hE; simp only [Act.eval, Act.put, List.setIfInBounds_toArray, List.set_cons_zero, List.set_cons_succ, getD_lit, List.getD_cons_succ, List.getD_cons_zero, Value.cells] at hE)
      | (refine wpl_allocN hE rfl rfl (n := 6) (by kernel_rfl) ?_; clear hE; intro br cs w1 hq hE)
      | (refine wpl_loadW hE 1 rfl rfl rfl rfl Try.isAgg71 Try.sizeOf71 rfl ?_)
      | (refine wpl_storeN hE 0 rfl rfl rfl rfl rfl Try.sizeOf71 rfl (by simp [Value.oneCell']) hq ?_; clear hE; intro w3 hE; simp only [List.set_cons_succ, List.set_cons_zero] at hE)
      | (first | (refine wpl_load1 hE 0 rfl rfl rfl rfl (by simp [go_sem]) rfl ?_) | (refine wpl_load1 hE 1 rfl rfl rfl rfl (by simp [go_sem]) rfl ?_) | (refine wpl_load1 hE 2 rfl rfl rfl rfl (by simp [go_sem]) rfl ?_) | (refine wpl_load1 hE 3 rfl rfl rfl rfl (by simp [go_sem]) rfl ?_) | (refine wpl_load1 hE 4 rfl rfl rfl rfl (by simp [go_sem]) rfl ?_) | (refine wpl_load1 hE 5 rfl rfl rfl rfl (by simp [go_sem]) rfl ?_)) | (first | (refine wpl_store hE 0 rfl rfl rfl rfl rfl (by simp [go_sem]; rfl) (by rfl) (by simp [Value.cells, Value.oneCell', Act.eval]) (by simp) ?_; clear hE; intro w hE; simp only [Act.eval, getD_lit, List.getD_cons_succ, List.getD_cons_zero, Value.cells, List.set_cons_zero, List.set_cons_succ, List.take_succ_cons, List.take_zero, List.nil_append, List.cons_append, List.drop_succ_cons, List.drop_zero, List.length_cons, List.length_nil, Nat.reduceAdd, Nat.zero_add] at hE) | (refine wpl_store hE 1 rfl rfl rfl rfl rfl (by simp [go_sem]; rfl) (by rfl) (by simp [Value.cells, Value.oneCell', Act.eval]) (by simp) ?_; clear hE; intro w hE; simp only [Act.eval, getD_lit, List.getD_cons_succ, List.getD_cons_zero, Value.cells, List.set_cons_zero, List.set_cons_succ, List.take_succ_cons, List.take_zero, List.nil_append, List.cons_append, List.drop_succ_cons, List.drop_zero, List.length_cons, List.length_nil, Nat.reduceAdd, Nat.zero_add] at hE) | (refine wpl_store hE 2 rfl rfl rfl rfl rfl (by simp [go_sem]; rfl) (by rfl) (by simp [Value.cells, Value.oneCell', Act.eval]) (by simp) ?_; clear hE; intro w hE; simp only [Act.eval, getD_lit, List.getD_cons_succ, List.getD_cons_zero, Value.cells, List.set_cons_zero, List.set_cons_succ, List.take_succ_cons, List.take_zero, List.nil_append, List.cons_append, List.drop_succ_cons, List.drop_zero, List.length_cons, List.length_nil, Nat.reduceAdd, Nat.zero_add] at hE) | (refine wpl_store hE 3 rfl rfl rfl rfl rfl (by simp [go_sem]; rfl) (by rfl) (by simp [Value.cells, Value.oneCell', Act.eval]) (by simp) ?_; clear hE; intro w hE; simp only [Act.eval, getD_lit, List.getD_cons_succ, List.getD_cons_zero, Value.cells, List.set_cons_zero, List.set_cons_succ, List.take_succ_cons, List.take_zero, List.nil_append, List.cons_append, List.drop_succ_cons, List.drop_zero, List.length_cons, List.length_nil, Nat.reduceAdd, Nat.zero_add] at hE) | (refine wpl_store hE 4 rfl rfl rfl rfl rfl (by simp [go_sem]; rfl) (by rfl) (by simp [Value.cells, Value.oneCell', Act.eval]) (by simp) ?_; clear hE; intro w hE; simp only [Act.eval, getD_lit, List.getD_cons_succ, List.getD_cons_zero, Value.cells, List.set_cons_zero, List.set_cons_succ, List.take_succ_cons, List.take_zero, List.nil_append, List.cons_append, List.drop_succ_cons, List.drop_zero, List.length_cons, List.length_nil, Nat.reduceAdd, Nat.zero_add] at hE) | (refine wpl_store hE 5 rfl rfl rfl rfl rfl (by simp [go_sem]; rfl) (by rfl) (by simp [Value.cells, Value.oneCell', Act.eval]) (by simp) ?_; clear hE; intro w hE; simp only [Act.eval, getD_lit, List.getD_cons_succ, List.getD_cons_zero, Value.cells, List.set_cons_zero, List.set_cons_succ, List.take_succ_cons, List.take_zero, List.nil_append, List.cons_append, List.drop_succ_cons, List.drop_zero, List.length_cons, List.length_nil, Nat.reduceAdd, Nat.zero_add] at hE)))
    refine bodyPost_ret (results_cell2 rfl hE 0 rfl rfl Try.isAgg71 Try.sizeOf71 rfl rfl) rfl ⟨_, rfl, _, rfl, ⟨ao, c, aw, d, rfl, H1.out, H2.out⟩, hE.tail.tail⟩
end Go.Proofs.Ytpchnmcofkffiaa
