/-
  What lies on a sector of the disk; a read of it; a new disk.
-/
import Derived.Test.YtpchnmcofkffiaaDk4
import Derived.Test.YtpchnmcofkffiaaSlh
namespace Go.Proofs.Ytpchnmcofkffiaa
open Go.RowKit Go.SL

theorem bv512 {s : DS} (hg : s.good) : ∀ x ∈ s.on, (bvals x).length = 512 := fun x hx => by rw [bvals_length]; exact hg.on x hx

/-- the sector's cells in the row of sectors -/
theorem sector_cells {w : World} {l : List HProp} {s : DS} (hg : s.good) {g n c k : Nat} (i : Nat) (hE : Ent l w) (hi : l[i]? = some (row 114 512 (.slice (some ⟨g, 0, none⟩) n c) n (s.on.flatMap bvals))) (hk : k < s.on.length) :
    ∀ j v, (bvals (s.on.getD k []))[j]? = some v → w.cell? ((⟨g, k * 512, none⟩ : Addr).add j) = some v := by
  intro j v hv
  rw [Addr.add_lit]
  have e : s.on.getD k [] = s.on[k] := by simp [List.getD_eq_getElem?_getD, hk]
  rw [e] at hv
  exact hE.rowCell i hi (flatMap_at' bvals 512 s.on (bv512 hg) k j _ v (List.getElem?_eq_getElem hk) hv)

theorem on_len {s : DS} (hg : s.good) {k : Nat} (hk : k < s.on.length) : (s.on.getD k []).length = 512 := by
  have e : s.on.getD k [] = s.on[k] := by simp [List.getD_eq_getElem?_getD, hk]
  rw [e]
  exact hg.on _ (List.getElem_mem hk)

set_option maxRecDepth 100000 in
theorem Raw_in {l : List HProp} {w : World} {p : Nat} {s : DS} {k : Nat} (hg : s.good) (hk : k < s.on.length) (hE : Ent (disk p s :: l) w) :
    Calls Try.prog 42 #[.pointer (some ⟨p, 0, none⟩), .int .i64 k] w (Ret fun v w' => ∃ q, v = .slice (some ⟨q, 0, none⟩) 512 512 ∧ Ent (pt q (.cells (bvals (s.on.getD k [])).toArray 114) :: disk p s :: l) w') := by
  have H2 := SL.hid (hasE_0 (s := s) (k := (k : Int)) ⟨by omega, by omega⟩)
  have Hl := SL.hid (show (bvals (s.on.getD k [])).length = 512 by rw [bvals_length]; exact on_len hg hk)
  have Hc := SL.hid (fun g c w l (hE : Ent l w) (hi : l[1]? = some (row 114 512 (.slice (some ⟨g, 0, none⟩) s.on.length c) s.on.length (s.on.flatMap bvals))) => sector_cells hg 1 hE hi hk)
  obtain ⟨ao, c, aw, d, hE⟩ := disk_open hE
  obtain ⟨g, rfl, _, _⟩ := hE.rowIs 1 rfl (by omega)
  have Hcx := SL.hid (Hc.out g c w _ hE rfl)
  clear Hc
  go_enter Try.func42, Try.ntmps42
  go_wp2_with (first
    | go_skip
    | (go_at_call 78; refine (has_is H2.out (disk_close hE)).mono ?_; rintro e w2 ⟨rfl, rfl⟩)
    | (refine wpl_loadC rfl rfl rfl Try.isAgg114 Try.sizeOf114 (bvals (s.on.getD k [])) Hl.out Hcx.out ?_)
    | (refine wpl_allocN hE rfl rfl (n := 512) (by kernel_rfl) ?_; intro q cs w1 hq hE1; clear hE)
    | (refine wpl_storeN hE1 0 rfl rfl rfl rfl rfl Try.sizeOf114 Hl.out (bvals_one _) hq ?_; clear hE1; intro w2 hE; simp only [List.set_cons_zero] at hE)
    | (first | (refine wpl_load1 hE 0 rfl rfl rfl rfl (by simp [go_sem]) rfl ?_) | (refine wpl_load1 hE 1 rfl rfl rfl rfl (by simp [go_sem]) rfl ?_) | (refine wpl_load1 hE 2 rfl rfl rfl rfl (by simp [go_sem]) rfl ?_) | (refine wpl_load1 hE 3 rfl rfl rfl rfl (by simp [go_sem]) rfl ?_) | (refine wpl_load1 hE 4 rfl rfl rfl rfl (by simp [go_sem]) rfl ?_) | (refine wpl_load1 hE 5 rfl rfl rfl rfl (by simp [go_sem]) rfl ?_)))
  go_ret
  exact ⟨_, rfl, q, rfl, (disk_close (((hE.front 3 rfl).front 3 rfl).front 3 rfl)).front 1 rfl⟩

theorem Raw_not {l : List HProp} {w : World} {p : Nat} {s : DS} {k : Int} (hk : ¬(0 ≤ k ∧ k < s.on.length)) (hE : Ent (disk p s :: l) w) :
    Calls Try.prog 42 #[.pointer (some ⟨p, 0, none⟩), .int .i64 k] w (Ret fun v w' => v = .slice none 0 0 ∧ Ent (disk p s :: l) w') := by
  have H2 := SL.hid (hasE_2 hk)
  clear hk
  go_enter Try.func42, Try.ntmps42
  go_wp2_with (first
    | go_skip
    | (go_at_call 78; refine (has_is H2.out hE).mono ?_; rintro e w2 ⟨rfl, rfl⟩))
  go_ret
  exact ⟨_, rfl, rfl, hE⟩
theorem Raw_nil {l : List HProp} {w : World} (k : Int) (hE : Ent l w) :
    Calls Try.prog 42 #[.pointer none, .int .i64 k] w (Ret fun v w' => v = .slice none 0 0 ∧ Ent l w') := by
  go_enter Try.func42, Try.ntmps42
  go_wp2_with (first
    | go_skip
    | (go_at_call 78; refine (has_nil _ _).mono ?_; rintro e w2 ⟨rfl, rfl⟩))
  go_ret
  exact ⟨_, rfl, rfl, hE⟩

theorem read_errs (x y : Int) (hx : x ≠ 0) : firstE [x, y] = x := by simp [firstE, hx]
theorem read_err2 (y : Int) : firstE [0, y] = y := by by_cases h : y = 0 <;> simp [firstE, h]
theorem first_r0 : firstE [0, 0] = 0 := by simp [firstE]

/-- a read that is refused -/
theorem Read_not {l : List HProp} {w : World} {p : Nat} {s : DS} {k : Int} (e1 e2 e : Int) (h1 : s.powerE = e1) (h2 : s.hasE k = e2) (he : firstE [e1, e2] = e) (hne : e ≠ 0) (hE : Ent (disk p s :: l) w) :
    Calls Try.prog 39 #[.pointer (some ⟨p, 0, none⟩), .int .i64 k] w (Ret fun v w' => v = .tuple #[.slice none 0 0, .int .i64 e] ∧ Ent (disk p s :: l) w') := by
  have H1 := SL.hid h1
  have H2 := SL.hid h2
  have He := SL.hid he
  clear h1 h2 he
  have hne' : (e != 0) = true := by simpa using hne
  go_enter Try.func39, Try.ntmps39
  go_wp2_with (first
    | go_skip
    | (go_at_call 72; have H := power_is H1.out hE; refine H.mono ?_; clear H; rintro e w2 ⟨v, rfl, rfl, hE⟩)
    | (go_at_call 78; refine (has_is H2.out hE).mono ?_; rintro e w2 ⟨rfl, rfl⟩)
    | (go_at_call 74; have H := first_2e (c := 2) (x := e1) (y := e2) e He.out (hE.alloc _); refine H.mono ?_; clear H; rintro e w2 ⟨rfl, rfl⟩; replace hE := (hE.alloc (.cells #[.int .i64 e1, .int .i64 e2] 34)).tail))
  go_ret2
  exact ⟨_, rfl, rfl, hE⟩
theorem Read_nil {l : List HProp} {w : World} (k : Int) (hE : Ent l w) :
    Calls Try.prog 39 #[.pointer none, .int .i64 k] w (Ret fun v w' => v = .tuple #[.slice none 0 0, .int .i64 1] ∧ Ent l w') := by
  have He := SL.hid (read_errs 1 2 (by decide))
  go_enter Try.func39, Try.ntmps39
  go_wp2_with (first
    | go_skip
    | (go_at_call 72; have H := power_nil _ _ hE; refine H.mono ?_; clear H; rintro e w2 ⟨v, rfl, rfl, hE⟩)
    | (go_at_call 78; refine (has_nil _ _).mono ?_; rintro e w2 ⟨rfl, rfl⟩)
    | (go_at_call 74; have H := first_2e (c := 2) (x := 1) (y := 2) 1 He.out (hE.alloc _); refine H.mono ?_; clear H; rintro e w2 ⟨rfl, rfl⟩; replace hE := (hE.alloc (.cells #[.int .i64 1, .int .i64 2] 34)).tail))
  go_ret2
  exact ⟨_, rfl, rfl, hE⟩

/-- reading from the last write on -/
theorem lastOf_none : ∀ (ws : List Wt) (k : Nat) (d : List UInt8), (∀ w ∈ ws, w.at_ ≠ k) → lastOf ws k d = d
  | [], _, _, _ => rfl
  | w :: ws, k, d, h => by
    rw [lastOf, List.foldl_cons, if_neg (h w (by simp))]
    exact lastOf_none ws k d (fun v hv => h v (by simp [hv]))
theorem lastOf_append (a b : List Wt) (k : Nat) (d : List UInt8) : lastOf (a ++ b) k d = lastOf b k (lastOf a k d) := by simp [lastOf]
theorem lastOf_at (ws : List Wt) (i : Nat) (hi : i < ws.length) (k : Nat) (d : List UInt8) (hk : (ws[i]).at_ = k) (h : ∀ w ∈ ws.drop (i + 1), w.at_ ≠ k) : lastOf ws k d = (ws[i]).b := by
  have e : ws = ws.take (i + 1) ++ ws.drop (i + 1) := (List.take_append_drop _ _).symm
  conv => lhs; rw [e, lastOf_append, lastOf_none _ k _ h, List.take_succ_eq_append_getElem hi, lastOf_snoc, if_pos hk]

def ReadRel (s : DS) (p : Nat) (k : Nat) (ao aw : Option Addr) (c d : Nat) (l : List HProp) (i : Value) (wr : World) : Prop :=
  ∃ j : Nat, j ≤ s.wait.length ∧ i = .int .i64 ((j : Int) - 1) ∧ (∀ w ∈ s.wait.drop j, w.at_ ≠ k) ∧ Ent (pt p (.cells #[.int .i64 s.left, .string s.keep, .slice ao s.on.length c, .slice aw s.wait.length d, .bool s.dead, .int .u64 s.acts] 112) ::
      row 114 512 (.slice ao s.on.length c) s.on.length (s.on.flatMap bvals) :: row 116 513 (.slice aw s.wait.length d) s.wait.length (s.wait.flatMap wcells) :: l) wr

set_option maxRecDepth 100000 in
set_option maxHeartbeats 1000000 in
theorem Read_in {l : List HProp} {w : World} {p : Nat} {s : DS} {k : Nat} (hg : s.good) (hd : s.dead = false) (hk : k < s.on.length) (hE : Ent (disk p s :: l) w) :
    Calls Try.prog 39 #[.pointer (some ⟨p, 0, none⟩), .int .i64 k] w (Ret fun v w' => ∃ q Tq, v = .tuple #[.slice (some ⟨q, 0, none⟩) 512 512, .int .i64 0] ∧ ∃ xs, Ent (pt q (.cells (bvals (s.readAt k) ++ xs).toArray Tq) :: disk p s :: l) w') := by
  have H1 := SL.hid (powerE_0 hd)
  have H2 := SL.hid (hasE_0 (s := s) (k := (k : Int)) ⟨by omega, by omega⟩)
  obtain ⟨ao, c, aw, d, hE⟩ := disk_open hE
  have hmax : s.wait.length ≤ 9223372036854775807 := by
    by_cases h0 : 0 < s.wait.length
    · obtain ⟨_, _, h1, h2⟩ := hE.rowIs 2 rfl h0
      unfold maxLen at h2
      omega
    · omega
  clear hd
  go_enter Try.func39, Try.ntmps39
  go_wp2_with (first
    | go_skip
    | (go_at_call 72; have H := power_is H1.out (disk_close hE); refine H.mono ?_; clear H; rintro e w2 ⟨v, rfl, rfl, hE2⟩; clear hE; obtain ⟨ao, c, aw, d, hE⟩ := disk_open hE2; clear hE2)
    | (go_at_call 78; refine (has_is H2.out (disk_close hE)).mono ?_; rintro e w2 ⟨rfl, rfl⟩)
    | (go_at_call 74; have H := first_2e (c := 2) (x := 0) (y := 0) 0 first_r0 (hE.alloc _); refine H.mono ?_; clear H; rintro e w2 ⟨rfl, rfl⟩; replace hE := (hE.alloc (.cells #[.int .i64 0, .int .i64 0] 34)).tail)
    | (first | (refine wpl_load1 hE 0 rfl rfl rfl rfl (by simp [go_sem]) rfl ?_) | (refine wpl_load1 hE 1 rfl rfl rfl rfl (by simp [go_sem]) rfl ?_) | (refine wpl_load1 hE 2 rfl rfl rfl rfl (by simp [go_sem]) rfl ?_) | (refine wpl_load1 hE 3 rfl rfl rfl rfl (by simp [go_sem]) rfl ?_) | (refine wpl_load1 hE 4 rfl rfl rfl rfl (by simp [go_sem]) rfl ?_) | (refine wpl_load1 hE 5 rfl rfl rfl rfl (by simp [go_sem]) rfl ?_)))
  go_loopw [7] (fun i wr => ReadRel s p k ao aw c d l i wr) (fun i _ => (intOf i + 1).toNat)
  case atStart => exact ⟨s.wait.length, Nat.le_refl _, by simp, by simp, hE⟩
  case round =>
    clear hE
    obtain ⟨j, hj, rfl, hno, hE⟩ := hrel
    rcases j with _ | j
    · have Hr := SL.hid (show s.readAt k = s.on.getD k [] by rw [DS.readAt, lastOf_none _ _ _ (by simpa using hno)])
      clear hno
      go_wp2_with (first
        | go_skip
        | (go_at_call 42; have H := Raw_in hg hk (disk_close hE); refine H.mono ?_; clear H; rintro e w2 ⟨v, rfl, q, rfl, hE2⟩))
      go_ret2
      refine ⟨_, rfl, q, 114, rfl, [], ?_⟩
      rw [Hr.out, List.append_nil]
      exact hE2
    · have hlt : j < s.wait.length := by omega
      obtain ⟨b, off, rfl, hc⟩ := reads_form (reads_row hE 2 rfl) (by omega) (by rw [flatMap_len' wcells 513 _ (fun x hx => wcells_len x (hg.wait x hx).1)]; omega)
      have hwk := hg.wait _ (List.getElem_mem hlt)
      have hcx : ∀ i v, (wcells s.wait[j])[i]? = some v → wr.cell? ((⟨b, off + j * 513, none⟩ : Addr).add i) = some v := by
        intro i v hv
        rw [Addr.add_lit, Nat.add_assoc]
        exact hc _ _ (flatMap_at' wcells 513 s.wait (fun x hx => wcells_len x (hg.wait x hx).1) j i _ v (List.getElem?_eq_getElem hlt) hv)
      have Hcx := SL.hid hcx
      have Hd := SL.hid (show s.wait.drop j = s.wait[j] :: s.wait.drop (j + 1) from List.drop_eq_getElem_cons hlt)
      have Hat := SL.hid (fun h => lastOf_at s.wait j hlt k (s.on.getD k []) h hno)
      have Hno := SL.hid hno
      clear hcx hc hno
      have hs : IntKind.i64.wrap ((j : Int) + 1 - 1) = (j : Int) := by
        rw [show (j : Int) + 1 - 1 = (j : Int) by omega]
        simp [IntKind.wrap, IntKind.bits, IntKind.signed]
        omega
      have hj1 : ((j : Int) + 1 - 1) = (j : Int) := by omega
      generalize s.wait[j] = x at *
      obtain ⟨hx1, hx2⟩ := hwk
      have Hx1 := SL.hid hx1
      have Hl := SL.hid (wcells_len x hx1)
      clear hx1
      simp only [Int.natCast_add, Int.cast_ofNat_Int, hj1]
      cases heq : ((x.at_ : Int) == (k : Int)) with
      | true =>
        have Hk := SL.hid (show x.at_ = k by have := beq_iff_eq.1 heq; omega)
        go_wp2_with (first
          | go_skip
          | (refine wpl_loadC rfl rfl rfl Try.isAgg116 Try.sizeOf116 (wcells x) Hl.out Hcx.out ?_)
          | (refine wpl_allocN hE rfl rfl (n := 513) (by kernel_rfl) ?_; intro q cs w1 hq hE1; clear hE)
          | (refine wpl_storeN hE1 0 rfl rfl rfl rfl rfl Try.sizeOf116 Hl.out (wcells_one x) hq ?_; clear hE1; intro w2 hE; simp only [List.set_cons_zero] at hE)
          | (refine wpl_load1 hE 0 rfl rfl rfl rfl (by simp [go_sem]) (off := 512) (v := .int .i64 (x.at_ : Nat)) (by rw [List.getElem?_toArray]; exact wcells_at x Hx1.out) ?_)
          | (refine wpl_load1 hE 1 rfl rfl rfl rfl (by simp [go_sem]) (off := 3) rfl ?_)
          | (first | (refine wpl_load1 hE 0 rfl rfl rfl rfl (by simp [go_sem]) rfl ?_) | (refine wpl_load1 hE 1 rfl rfl rfl rfl (by simp [go_sem]) rfl ?_) | (refine wpl_load1 hE 2 rfl rfl rfl rfl (by simp [go_sem]) rfl ?_) | (refine wpl_load1 hE 3 rfl rfl rfl rfl (by simp [go_sem]) rfl ?_) | (refine wpl_load1 hE 4 rfl rfl rfl rfl (by simp [go_sem]) rfl ?_) | (refine wpl_load1 hE 5 rfl rfl rfl rfl (by simp [go_sem]) rfl ?_)))
        go_ret2
        refine ⟨_, rfl, q, 116, rfl, [.int .i64 (x.at_ : Nat)], ?_⟩
        rw [show s.readAt k = x.b from Hat.out Hk.out]
        exact (disk_close (((hE.front 3 rfl).front 3 rfl).front 3 rfl)).front 1 rfl
      | false =>
        have Hk := SL.hid (show x.at_ ≠ k by have := beq_eq_false_iff_ne.1 heq; omega)
        go_wp2_with (first
          | go_skip
          | (refine wpl_loadC rfl rfl rfl Try.isAgg116 Try.sizeOf116 (wcells x) Hl.out Hcx.out ?_)
          | (refine wpl_allocN hE rfl rfl (n := 513) (by kernel_rfl) ?_; intro q cs w1 hq hE1; clear hE)
          | (refine wpl_storeN hE1 0 rfl rfl rfl rfl rfl Try.sizeOf116 Hl.out (wcells_one x) hq ?_; clear hE1; intro w2 hE; simp only [List.set_cons_zero] at hE)
          | (refine wpl_load1 hE 0 rfl rfl rfl rfl (by simp [go_sem]) (off := 512) (v := .int .i64 (x.at_ : Nat)) (by rw [List.getElem?_toArray]; exact wcells_at x Hx1.out) ?_)
          | (first | (refine wpl_load1 hE 0 rfl rfl rfl rfl (by simp [go_sem]) rfl ?_) | (refine wpl_load1 hE 1 rfl rfl rfl rfl (by simp [go_sem]) rfl ?_) | (refine wpl_load1 hE 2 rfl rfl rfl rfl (by simp [go_sem]) rfl ?_) | (refine wpl_load1 hE 3 rfl rfl rfl rfl (by simp [go_sem]) rfl ?_) | (refine wpl_load1 hE 4 rfl rfl rfl rfl (by simp [go_sem]) rfl ?_) | (refine wpl_load1 hE 5 rfl rfl rfl rfl (by simp [go_sem]) rfl ?_)))
        go_roundw
        case rel =>
          refine ⟨j, by omega, by simp, ?_, hE.tail⟩
          rw [Hd.out]
          intro w hw
          rcases List.mem_cons.1 hw with rfl | hw
          · exact Hk.out
          · exact Hno.out w hw
        case measure => simp [intOf]

theorem zero_cells : zeroSize Try.prog 114 = some 512 := by kernel_rfl

set_option maxRecDepth 100000 in
theorem New_not {l : List HProp} {w : World} {n : Int} (hn : ¬(1 ≤ n ∧ n ≤ 4096)) (hE : Ent l w) :
    Calls Try.prog 32 #[.int .i64 n] w (Ret fun v w' => v = .tuple #[.pointer none, .int .i64 2] ∧ Ent l w') := by
  by_cases h1 : n < 1
  · go_enter Try.func32, Try.ntmps32
    go_wp2_with (first | go_skip)
    go_ret2
    exact ⟨_, rfl, rfl, hE⟩
  · have h2 : 4096 < n := by omega
    clear hn
    go_enter Try.func32, Try.ntmps32
    go_wp2_with (first | go_skip)
    go_ret2
    exact ⟨_, rfl, rfl, hE⟩

set_option maxRecDepth 100000 in
theorem New_in {l : List HProp} {w : World} {n : Nat} (h1 : 1 ≤ n) (h2 : n ≤ 4096) (hE : Ent l w) :
    Calls Try.prog 32 #[.int .i64 n] w (Ret fun v w' => ∃ p, v = .tuple #[.pointer (some ⟨p, 0, none⟩), .int .i64 0] ∧ Ent (disk p (DS.new n) :: l) w') := by
  go_enter Try.func32, Try.ntmps32
  have hz : zeroList Try.prog 114 = some (bvals (fullSec 0), 512, 512) := by kernel_rfl
  go_wp2_with (first
    | go_skip
    | (refine wpl_make hE rfl rfl Try.underlying109 hz (by rw [bvals_length, fullSec_length]) (by decide) n rfl rfl (by omega) (by omega) ?_; clear hE; intro g w1 hE)
    | (refine wpl_box hE rfl rfl rfl ?_; clear hE; intro b w hE; simp only [Act.eval, Act.put, List.setIfInBounds_toArray, List.set_cons_zero, List.set_cons_succ, getD_lit, List.getD_cons_succ, List.getD_cons_zero, Value.cells] at hE))
  go_ret2
  refine ⟨_, rfl, b, rfl, ?_⟩
  have hE2 := ((hE.nil 116 513).front 1 rfl).perm ((List.Perm.swap _ _ _).cons _)
  have e1 : (DS.new n).on.length = n := by simp [DS.new]
  have e2 : (DS.new n).on.flatMap bvals = (List.replicate n (bvals (fullSec 0))).flatten := by simp only [DS.new, List.flatMap, List.map_replicate]
  refine disk_close (s := DS.new n) (ao := some ⟨g, 0, none⟩) (c := n) (aw := none) (d := 0) ?_
  rw [e1, e2]
  exact hE2

/-- a known sector -/
theorem Raw_any {l : List HProp} {w : World} {p : Nat} {s : DS} {k : Nat} (hg : s.good) (hk : k < s.on.length) (hE : Ent (disk p s :: l) w) :
    Calls Try.prog 42 #[.pointer (some ⟨p, 0, none⟩), .int .i64 k] w (Ret fun v w' => ∃ q, v = .slice (some ⟨q, 0, none⟩) 512 512 ∧ Ent (view (.slice (some ⟨q, 0, none⟩) 512 512) 512 (bvals (s.on.getD k [])) :: disk p s :: l) w') := by
  refine (Raw_in hg hk hE).mono ?_
  rintro e w2 ⟨v, rfl, q, rfl, h⟩
  exact ⟨_, rfl, q, rfl, h.ptView 0 rfl (fun j u hu => by simpa using hu)⟩

theorem Read_any {l : List HProp} {w : World} {p : Nat} {s : DS} {k : Nat} (hg : s.good) (hd : s.dead = false) (hk : k < s.on.length) (hE : Ent (disk p s :: l) w) :
    Calls Try.prog 39 #[.pointer (some ⟨p, 0, none⟩), .int .i64 k] w (Ret fun v w' => ∃ q, v = .tuple #[.slice (some ⟨q, 0, none⟩) 512 512, .int .i64 0] ∧ Ent (view (.slice (some ⟨q, 0, none⟩) 512 512) 512 (bvals (s.readAt k)) :: disk p s :: l) w') := by
  refine (Read_in hg hd hk hE).mono ?_
  rintro e w2 ⟨v, rfl, q, T, rfl, xs, h⟩
  refine ⟨_, rfl, q, rfl, h.ptView 0 rfl (fun j u hu => ?_)⟩
  rw [List.getElem?_toArray, List.getElem?_append_left (List.getElem?_eq_some_iff.1 hu).1]
  exact hu

theorem lastOf_len (ws : List Wt) (k : Nat) : ∀ d : List UInt8, d.length = 512 → (∀ w ∈ ws, w.b.length = 512) → (lastOf ws k d).length = 512 := by
  induction ws with
  | nil => intro d h _; exact h
  | cons w ws ih =>
    intro d h hw
    rw [lastOf, List.foldl_cons]
    refine ih _ ?_ (fun v hv => hw v (by simp [hv]))
    split
    · exact hw w (by simp)
    · exact h
theorem readAt_len {s : DS} (hg : s.good) {k : Nat} (hk : k < s.on.length) : (s.readAt k).length = 512 := lastOf_len _ _ _ (on_len hg hk) (fun w hw => (hg.wait w hw).1)
end Go.Proofs.Ytpchnmcofkffiaa
