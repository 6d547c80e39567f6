/-
  The law of the disk behind any acts: the walk of its function.
-/
import Derived.Test.YtpchnmcofkffiaaDw4
import Derived.Test.YtpchnmcofkffiaaDw5
namespace Go.Proofs.Ytpchnmcofkffiaa
open Go.RowKit Go.SL

theorem great4_is {b : Bool} {w : World} {xs : List DAct} {ao : Option Addr} {c : Nat} (hg : great4V xs = b) (hr : reads (.slice ao xs.length c) xs.length (actCells xs) w) :
    Calls Try.prog 30 #[.slice ao xs.length c] w (fun e w' => e = .returned (.bool b) ∧ w = w') := hg ▸ great4_any hr

theorem act5k {l : List HProp} {w : World} {xs : List DAct} {ab off n c k : Nat} {x : DAct} (hk : Knows l (reads (.slice (some ⟨ab, off, none⟩) n c) n (actCells xs))) (hlt : k < xs.length) (hx : xs[k] = x) (hE : Ent l w) :
    (fun w' : World => w'.cell? ⟨ab, off + k * 5, none⟩ = some (.int .u8 x.do_.toNat) ∧ w'.cell? ⟨ab, off + k * 5 + 1, none⟩ = some (.int .i64 x.n) ∧ w'.cell? ⟨ab, off + k * 5 + 2, none⟩ = some (.string x.keep) ∧ w'.cell? ⟨ab, off + k * 5 + 3, none⟩ = some (.int .u8 x.c.toNat) ∧ w'.cell? ⟨ab, off + k * 5 + 4, none⟩ = some (.bool x.short)) w := by
  obtain ⟨_, _, e, _, h⟩ := hk _ hE
  cases e
  subst hx
  have g : ∀ j u, (xs[k]).cells[j]? = some u → w.cell? ⟨ab, off + (k * 5 + j), none⟩ = some u := fun j u hu => by
    have := h _ rfl _ _ (act_at hlt j u hu)
    rwa [Addr.add_lit] at this
  exact ⟨g 0 _ rfl, g 1 _ rfl, g 2 _ rfl, g 3 _ rfl, g 4 _ rfl⟩

def PlaysRel (xs : List DAct) (n p bw bz : Nat) (l : List HProp) (i cp : Value) (wr : World) : Prop :=
  ∃ (k q : Nat) (s sc : DS) (m : List HProp) (ao aw bo bv : Option Addr) (c d e f : Nat), k ≤ xs.length ∧ i = .int .i64 k ∧ cp = .pointer (some ⟨q, 0, none⟩) ∧ s.good ∧ sc.good ∧ s.on.length = n ∧ sc.on.length = n ∧ s.wait.length ≤ k ∧ sc.wait.length ≤ 80 ∧
    refIs (m ++ l) (rcells s ao c aw d) s ∧ refIs (m ++ l) (rcells sc bo e bv f) sc ∧
    Ent (disk p s :: disk q sc :: pt bw (.cells #[.slice ao s.on.length c, .slice aw s.wait.length d, .bool s.dead, .int .i64 s.left, .string s.keep, .int .u64 s.acts] 71) :: pt bz (.cells #[.slice bo sc.on.length e, .slice bv sc.wait.length f, .bool sc.dead, .int .i64 sc.left, .string sc.keep, .int .u64 sc.acts] 71) :: (m ++ l)) wr

set_option maxRecDepth 100000 in
set_option maxHeartbeats 4000000 in
theorem Plays_in {xs : List DAct} (hgood : ∀ x ∈ xs, x.good) (hgr : great4V xs = false) {n : Nat} (hn1 : 1 ≤ n) (hn2 : n ≤ 30) {l : List HProp} {w : World} (hE : Ent l w) {ao : Option Addr} {c : Nat} (hk : Knows l (reads (.slice ao xs.length c) xs.length (actCells xs))) :
    Calls Try.prog 7 #[.int .i64 n, .slice ao xs.length c] w (Ret fun v w' => v = .bool true ∧ Ent l w') := by
  have h80 : xs.length ≤ 80 := by
    simp only [great4V, Bool.or_eq_false_iff, decide_eq_false_iff_not] at hgr
    omega
  have Hgr := SL.hid hgr
  have Hgood := SL.hid hgood
  have Hk := SL.hid hk
  clear hgr hgood hk
  go_enter Try.func7, Try.ntmps7
  go_wp2_with (first
    | go_skip
    | (go_at_call 30; refine (great4_is Hgr.out (Hk.out _ hE)).mono ?_; rintro e w2 ⟨rfl, rfl⟩)
    | (go_at_call 32; have H := New_in hn1 (by omega) hE; refine H.mono ?_; clear H hE; rintro e w2 ⟨v, rfl, p, rfl, hE⟩)
    | (go_at_call 43; have H := rNew_any (F := [disk p (DS.new n)]) (n := n) (by omega) hE; refine H.mono ?_; clear H hE; rintro e w2 ⟨v, rfl, m, ys, rfl, hr, hE⟩; obtain ⟨aoX, cX, awX, dX, rfl, k1, k2⟩ := hr; have Hr := SL.hid (⟨aoX, cX, awX, dX, rfl, k1, k2⟩ : refIs (m ++ l) _ _); clear k1 k2; unfold rcells; simp only [List.cons_append, List.nil_append] at hE)
    | (refine wpl_allocN hE rfl rfl (n := 6) (by kernel_rfl) ?_; clear hE; intro bw cs w1 hq hE1)
    | (refine wpl_storeN hE1 0 rfl rfl rfl rfl rfl Try.sizeOf71 rfl (by simp [Value.oneCell']) hq ?_; clear hE1; intro w3 hE; simp only [List.set_cons_succ, List.set_cons_zero] at hE))
  have hED := hE.drew
  clear hq
  have b6 := (ref6 hED 0 rfl).1
  refine wp_meet (fun A a' w' => ∃ q bz, a' = ((((A.put (some 54) (.pointer (some ⟨p, 0, none⟩))).put (some 56) (.agg #[.slice aoX (DS.new n).on.length cX, .slice awX (DS.new n).wait.length dX, .bool (DS.new n).dead, .int .i64 (DS.new n).left, .string (DS.new n).keep, .int .u64 (DS.new n).acts])).put (some 55) (.pointer (some ⟨q, 0, none⟩))).put (some 9) (.pointer (some ⟨bz, 0, none⟩))).put (some 8) (.pointer (some ⟨q, 0, none⟩)) ∧
    Ent (disk p (DS.new n) :: disk q (DS.new n) :: pt bw (.cells #[.slice aoX (DS.new n).on.length cX, .slice awX (DS.new n).wait.length dX, .bool (DS.new n).dead, .int .i64 (DS.new n).left, .string (DS.new n).keep, .int .u64 (DS.new n).acts] 71) :: pt bz (.cells #[.slice aoX (DS.new n).on.length cX, .slice awX (DS.new n).wait.length dX, .bool (DS.new n).dead, .int .i64 (DS.new n).left, .string (DS.new n).keep, .int .u64 (DS.new n).acts] 71) :: (m ++ l)) w') ?_ ?_
  refine wp_region_held_drew (S := (fun w' => (w'.cell? ⟨bw, 0, none⟩ = some (.slice aoX (DS.new n).on.length cX) ∧ w'.cell? ⟨bw, 1, none⟩ = some (.slice awX (DS.new n).wait.length dX) ∧ w'.cell? ⟨bw, 2, none⟩ = some (.bool (DS.new n).dead) ∧ w'.cell? ⟨bw, 3, none⟩ = some (.int .i64 (DS.new n).left) ∧ w'.cell? ⟨bw, 4, none⟩ = some (.string (DS.new n).keep) ∧ w'.cell? ⟨bw, 5, none⟩ = some (.int .u64 (DS.new n).acts)))) (by kernel_rfl) b6 (fun hS => ?_)
  refine wpAnyH_take (i := 0) (oi := { dst := some 54, op := Go.Op.move (Go.Operand.tmp 5), type := 54, pos := "law.go:117", after := #[], guard := none }) (v := ?_) rfl (by kernel_rfl) (by kernel_rfl) (by kernel_rfl) (fun _ _ _ h => h) (Or.inl ⟨by rfl, ?_⟩) hS ?_
  rotate_left
  · (intro w hSw; (try dsimp only at hSw); go_simp; (try with_reducible rfl))
  try simp only [Act.put, List.setIfInBounds_toArray, List.set_cons_zero, List.set_cons_succ]
  refine wpAnyH_take (i := 2) (oi := { dst := some 56, op := Go.Op.load 71 (Go.Operand.tmp 7), type := 71, pos := "law.go:117", after := #[{ on := 4, ground := Go.Ground.gcOnly Go.Departure.lateStores }], guard := none }) (v := ?_) rfl (by kernel_rfl) (by kernel_rfl) (by kernel_rfl) (fun _ _ _ h => h) (Or.inl ⟨by rfl, ?_⟩) hS ?_
  rotate_left
  · (intro w hSw; (try dsimp only at hSw); go_simp; (try with_reducible rfl))
  try simp only [Act.put, List.setIfInBounds_toArray, List.set_cons_zero, List.set_cons_succ]
  refine wpAnyH_ready (rs := [1, 3]) (by kernel_rfl) (by simp) ?_
  refine (AllReadyH.cons (o := { dst := some 55, op := Go.Op.call { callee := Go.Callee.value (Go.Operand.func 44), args := #[Go.Operand.tmp 54], argTypes := #[54] }, type := 54, pos := "law.go:117", after := #[{ on := 0, ground := Go.Ground.data }], guard := none }) rfl (fun K hK => ?_) (AllReadyH.cons (o := { dst := some 9, op := Go.Op.alloc 71, type := 0, pos := "law.go:117", after := #[], guard := none }) rfl (fun K hK => ?_) AllReadyH.nil))
  focus
    (go_simp; (first | ((go_at_call 44; have H := Copy_any (DS.good_new n (by omega)) (by simp [DS.new]; omega) (by simp [DS.new]) (hA.front 2 rfl); refine H.mono ?_; clear H; rintro e w7 ⟨v, rfl, q, rfl, hC⟩); have hY1 := ((hC.front 3 rfl).front 1 rfl).front 2 rfl) | (go_at_call 44; have H := Copy_any (DS.good_new n (by omega)) (by simp [DS.new]; omega) (by simp [DS.new]) (hED.front 1 rfl); refine H.mono ?_; clear H; rintro e w7 ⟨v, rfl, q, rfl, hC⟩)))
    refine hK.out _ _ (by first | exact (ref6 hC 3 rfl).1 | exact (ref6 hC 2 rfl).1) (fun hS => ?_)
    clear hK K
    try simp only [Act.put, List.setIfInBounds_toArray, List.set_cons_zero, List.set_cons_succ]
    refine wpAnyH_ready (rs := [3]) (by kernel_rfl) (by simp) ?_
    refine (AllReadyH.cons (o := { dst := some 9, op := Go.Op.alloc 71, type := 0, pos := "law.go:117", after := #[], guard := none }) rfl (fun K hK => ?_) AllReadyH.nil)
    (go_simp; (first | (have hA := hC.alloc (.cells #[.slice none 0 0, .slice none 0 0, .bool false, .int .i64 0, .string ⟨#[]⟩, .int .u64 0] 71)) | have hA := (hE.alloc (.cells #[.slice none 0 0, .slice none 0 0, .bool false, .int .i64 0, .string ⟨#[]⟩, .int .u64 0] 71)).drew))
    refine hK.out _ _ (by first | exact (ref6 hA 3 rfl).1 | exact (ref6 hA 1 rfl).1) (fun hS => ?_)
    clear hK K
    try simp only [Act.put, List.setIfInBounds_toArray, List.set_cons_zero, List.set_cons_succ]
    refine wpAnyH_take (i := 4) (oi := { dst := some 8, op := Go.Op.assign (Go.Operand.tmp 55), type := 54, pos := "law.go:117", after := #[{ on := 1, ground := Go.Ground.data }, { on := 1, ground := Go.Ground.chain }, { on := 0, ground := Go.Ground.phase }, { on := 1, ground := Go.Ground.phase }, { on := 2, ground := Go.Ground.textOnly Go.Departure.lateStores }, { on := 3, ground := Go.Ground.phase }], guard := none }) (v := ?_) rfl (by kernel_rfl) (by kernel_rfl) (by kernel_rfl) (fun _ _ _ h => h) (Or.inl ⟨by rfl, ?_⟩) hS ?_
    rotate_left
    · (intro w hSw; (try dsimp only at hSw); go_simp; (try with_reducible rfl))
    try simp only [Act.put, List.setIfInBounds_toArray, List.set_cons_zero, List.set_cons_succ]
    refine wpAnyH_ready (rs := [5]) (by kernel_rfl) (by simp) ?_
    refine (AllReadyH.cons (o := { dst := none, op := Go.Op.store 71 (Go.Operand.tmp 9) (Go.Operand.tmp 56), type := 0, pos := "law.go:117", after := #[{ on := 3, ground := Go.Ground.data }, { on := 2, ground := Go.Ground.data }, { on := 4, ground := Go.Ground.chain }, { on := 0, ground := Go.Ground.phase }, { on := 1, ground := Go.Ground.phase }, { on := 2, ground := Go.Ground.phase }, { on := 3, ground := Go.Ground.phase }, { on := 4, ground := Go.Ground.phase }], guard := none }) rfl (fun K hK => ?_) AllReadyH.nil)
    (first | (obtain ⟨⟨f0, f1, f2, f3, f4, f5⟩, ff⟩ := ref6 hY1 3 rfl; go_simp; have hZ := ((((((hY1.setCell 3 rfl 0 (.slice aoX (DS.new n).on.length cX)).setCell 3 rfl 1 (.slice awX (DS.new n).wait.length dX)).setCell 3 rfl 2 (.bool (DS.new n).dead)).setCell 3 rfl 3 (.int .i64 (DS.new n).left)).setCell 3 rfl 4 (.string (DS.new n).keep)).setCell 3 rfl 5 (.int .u64 (DS.new n).acts))) | (go_simp; have hZ := (((hC.alloc (.cells #[.slice aoX (DS.new n).on.length cX, .slice awX (DS.new n).wait.length dX, .bool (DS.new n).dead, .int .i64 (DS.new n).left, .string (DS.new n).keep, .int .u64 (DS.new n).acts] 71)).front 3 rfl).front 2 rfl).front 3 rfl))
    refine hK.out _ _ (ref6 hZ 2 rfl).1 (fun hS => ?_)
    clear hK K
    try simp only [Act.put, List.setIfInBounds_toArray, List.set_cons_zero, List.set_cons_succ]
    refine wpAnyH_done (by kernel_rfl) ?_ _
    ((try simp only [List.set_cons_succ, List.set_cons_zero, List.setIfInBounds_toArray] at hZ); exact ⟨q, _, by simp only [Act.put, List.setIfInBounds_toArray, List.set_cons_zero, List.set_cons_succ], hZ⟩)
  focus
    (go_simp; (first | (have hA := hC.alloc (.cells #[.slice none 0 0, .slice none 0 0, .bool false, .int .i64 0, .string ⟨#[]⟩, .int .u64 0] 71)) | have hA := (hE.alloc (.cells #[.slice none 0 0, .slice none 0 0, .bool false, .int .i64 0, .string ⟨#[]⟩, .int .u64 0] 71)).drew))
    refine hK.out _ _ (by first | exact (ref6 hA 3 rfl).1 | exact (ref6 hA 1 rfl).1) (fun hS => ?_)
    clear hK K
    try simp only [Act.put, List.setIfInBounds_toArray, List.set_cons_zero, List.set_cons_succ]
    refine wpAnyH_ready (rs := [1]) (by kernel_rfl) (by simp) ?_
    refine (AllReadyH.cons (o := { dst := some 55, op := Go.Op.call { callee := Go.Callee.value (Go.Operand.func 44), args := #[Go.Operand.tmp 54], argTypes := #[54] }, type := 54, pos := "law.go:117", after := #[{ on := 0, ground := Go.Ground.data }], guard := none }) rfl (fun K hK => ?_) AllReadyH.nil)
    (go_simp; (first | ((go_at_call 44; have H := Copy_any (DS.good_new n (by omega)) (by simp [DS.new]; omega) (by simp [DS.new]) (hA.front 2 rfl); refine H.mono ?_; clear H; rintro e w7 ⟨v, rfl, q, rfl, hC⟩); have hY1 := ((hC.front 3 rfl).front 1 rfl).front 2 rfl) | (go_at_call 44; have H := Copy_any (DS.good_new n (by omega)) (by simp [DS.new]; omega) (by simp [DS.new]) (hED.front 1 rfl); refine H.mono ?_; clear H; rintro e w7 ⟨v, rfl, q, rfl, hC⟩)))
    refine hK.out _ _ (by first | exact (ref6 hC 3 rfl).1 | exact (ref6 hC 2 rfl).1) (fun hS => ?_)
    clear hK K
    try simp only [Act.put, List.setIfInBounds_toArray, List.set_cons_zero, List.set_cons_succ]
    refine wpAnyH_take (i := 4) (oi := { dst := some 8, op := Go.Op.assign (Go.Operand.tmp 55), type := 54, pos := "law.go:117", after := #[{ on := 1, ground := Go.Ground.data }, { on := 1, ground := Go.Ground.chain }, { on := 0, ground := Go.Ground.phase }, { on := 1, ground := Go.Ground.phase }, { on := 2, ground := Go.Ground.textOnly Go.Departure.lateStores }, { on := 3, ground := Go.Ground.phase }], guard := none }) (v := ?_) rfl (by kernel_rfl) (by kernel_rfl) (by kernel_rfl) (fun _ _ _ h => h) (Or.inl ⟨by rfl, ?_⟩) hS ?_
    rotate_left
    · (intro w hSw; (try dsimp only at hSw); go_simp; (try with_reducible rfl))
    try simp only [Act.put, List.setIfInBounds_toArray, List.set_cons_zero, List.set_cons_succ]
    refine wpAnyH_ready (rs := [5]) (by kernel_rfl) (by simp) ?_
    refine (AllReadyH.cons (o := { dst := none, op := Go.Op.store 71 (Go.Operand.tmp 9) (Go.Operand.tmp 56), type := 0, pos := "law.go:117", after := #[{ on := 3, ground := Go.Ground.data }, { on := 2, ground := Go.Ground.data }, { on := 4, ground := Go.Ground.chain }, { on := 0, ground := Go.Ground.phase }, { on := 1, ground := Go.Ground.phase }, { on := 2, ground := Go.Ground.phase }, { on := 3, ground := Go.Ground.phase }, { on := 4, ground := Go.Ground.phase }], guard := none }) rfl (fun K hK => ?_) AllReadyH.nil)
    (first | (obtain ⟨⟨f0, f1, f2, f3, f4, f5⟩, ff⟩ := ref6 hY1 3 rfl; go_simp; have hZ := ((((((hY1.setCell 3 rfl 0 (.slice aoX (DS.new n).on.length cX)).setCell 3 rfl 1 (.slice awX (DS.new n).wait.length dX)).setCell 3 rfl 2 (.bool (DS.new n).dead)).setCell 3 rfl 3 (.int .i64 (DS.new n).left)).setCell 3 rfl 4 (.string (DS.new n).keep)).setCell 3 rfl 5 (.int .u64 (DS.new n).acts))) | (go_simp; have hZ := (((hC.alloc (.cells #[.slice aoX (DS.new n).on.length cX, .slice awX (DS.new n).wait.length dX, .bool (DS.new n).dead, .int .i64 (DS.new n).left, .string (DS.new n).keep, .int .u64 (DS.new n).acts] 71)).front 3 rfl).front 2 rfl).front 3 rfl))
    refine hK.out _ _ (ref6 hZ 2 rfl).1 (fun hS => ?_)
    clear hK K
    try simp only [Act.put, List.setIfInBounds_toArray, List.set_cons_zero, List.set_cons_succ]
    refine wpAnyH_done (by kernel_rfl) ?_ _
    ((try simp only [List.set_cons_succ, List.set_cons_zero, List.setIfInBounds_toArray] at hZ); exact ⟨q, _, by simp only [Act.put, List.setIfInBounds_toArray, List.set_cons_zero, List.set_cons_succ], hZ⟩)
  · rintro a' w4 ⟨q, bz, rfl, hE⟩
    simp only [Act.put, List.setIfInBounds_toArray, List.set_cons_zero, List.set_cons_succ]
    clear hED b6
    go_wp2
    go_loopw [10, 8] (fun i cp wr => PlaysRel xs n p bw bz l i cp wr) (fun i _ _ => xs.length - (intOf i).toNat)
    case atStart => exact ⟨0, q, (DS.new n), (DS.new n), m, aoX, awX, aoX, awX, cX, dX, cX, dX, Nat.zero_le _, rfl, rfl, DS.good_new n (by omega), DS.good_new n (by omega), by simp [DS.new], by simp [DS.new], by simp [DS.new], by simp [DS.new], Hr.out, Hr.out, hE⟩
    case round =>
      clear hE Hr
      obtain ⟨k, q, s, sc, m, ao2, aw2, bo, bv, c2, d2, e2, f2, hkl, rfl, rfl, hg, hgc, hon, honc, hw, hwc, hrs, hrc, hE⟩ := hrel
      have Hrs := SL.hid hrs
      have Hrc := SL.hid hrc
      have Hon := SL.hid hon
      have Honc := SL.hid honc
      clear hrs hrc hon honc
      unfold rcells at Hrs Hrc
      by_cases hlt : k < xs.length
      · obtain ⟨ab, off, rfl, hc⟩ := reads_form (Hk.out _ hE.tail.tail.tail.tail.drop) (by omega) (by rw [actCells, flatMap_len _ 5 DAct.cells_len]; omega)
        clear hc
        have hxg := Hgood.out xs[k] (List.getElem_mem hlt)
        have H5 := SL.hid (fun w (hE : Ent l w) => act5k Hk.out hlt rfl hE)
        generalize xs[k] = x at *
        have hg' := hg.does x hxg
        have hod := on_does s x
        have Hon' := SL.hid (show (s.does x).on.length = n by rw [hod.1, Hon.out])
        have hw' : (s.does x).wait.length ≤ k + 1 := by have := hod.2; omega
        clear hod
        cases hmid : ((k : Int) == (xs.length : Int) / 2) with
        | true =>
          go_wp2_with (first | go_skip)
          have hED := hE.drew
          have b6 := (ref6 hED 2 rfl).1
          have a5 := H5.out _ hED.tail.tail.tail.tail.drop
          refine wp_meet (fun A a' w' => ∃ b11 ao3 c3 aw3 d3 m2, a' = ((((((((((((A.put (some 64) (.pointer (some ⟨p, 0, none⟩))).put (some 65) (.agg #[.slice ao2 s.on.length c2, .slice aw2 s.wait.length d2, .bool s.dead, .int .i64 s.left, .string s.keep, .int .u64 s.acts])).put (some 66) (.slice (some ⟨ab, off, none⟩) xs.length c)).put (some 67) (.int .i64 k)).put (some 68) (.pointer (some ⟨ab, off + k * 5, none⟩))).put (some 69) (.agg #[.int .u8 x.do_.toNat, .int .i64 x.n, .string x.keep, .int .u8 x.c.toNat, .bool x.short])).put (some 70) (.tuple #[.agg #[.slice ao3 (s.does x).on.length c3, .slice aw3 (s.does x).wait.length d3, .bool (s.does x).dead, .int .i64 (s.does x).left, .string (s.does x).keep, .int .u64 (s.does x).acts], .bool true])).put (some 63) (.tuple #[.agg #[.slice ao3 (s.does x).on.length c3, .slice aw3 (s.does x).wait.length d3, .bool (s.does x).dead, .int .i64 (s.does x).left, .string (s.does x).keep, .int .u64 (s.does x).acts], .bool true])).put (some 71) (.agg #[.slice ao3 (s.does x).on.length c3, .slice aw3 (s.does x).wait.length d3, .bool (s.does x).dead, .int .i64 (s.does x).left, .string (s.does x).keep, .int .u64 (s.does x).acts])).put (some 72) (.bool true)).put (some 11) (.pointer (some ⟨b11, 0, none⟩))).put (some 12) (.bool true)) ∧
            refIs (m2 ++ (m ++ l)) [.slice ao3 (s.does x).on.length c3, .slice aw3 (s.does x).wait.length d3, .bool (s.does x).dead, .int .i64 (s.does x).left, .string (s.does x).keep, .int .u64 (s.does x).acts] (s.does x) ∧ Ent (disk p (s.does x) :: pt b11 (.cells #[.slice ao3 (s.does x).on.length c3, .slice aw3 (s.does x).wait.length d3, .bool (s.does x).dead, .int .i64 (s.does x).left, .string (s.does x).keep, .int .u64 (s.does x).acts] 71) :: disk q sc :: pt bw (.cells #[.slice ao2 s.on.length c2, .slice aw2 s.wait.length d2, .bool s.dead, .int .i64 s.left, .string s.keep, .int .u64 s.acts] 71) :: pt bz (.cells #[.slice bo sc.on.length e2, .slice bv sc.wait.length f2, .bool sc.dead, .int .i64 sc.left, .string sc.keep, .int .u64 sc.acts] 71) :: (m2 ++ (m ++ l))) w') ?_ ?_
          refine wp_region_held_drew (S := (fun w' => (w'.cell? ⟨bw, 0, none⟩ = some (.slice ao2 s.on.length c2) ∧ w'.cell? ⟨bw, 1, none⟩ = some (.slice aw2 s.wait.length d2) ∧ w'.cell? ⟨bw, 2, none⟩ = some (.bool s.dead) ∧ w'.cell? ⟨bw, 3, none⟩ = some (.int .i64 s.left) ∧ w'.cell? ⟨bw, 4, none⟩ = some (.string s.keep) ∧ w'.cell? ⟨bw, 5, none⟩ = some (.int .u64 s.acts)) ∧ (w'.cell? ⟨ab, off + k * 5, none⟩ = some (.int .u8 x.do_.toNat) ∧ w'.cell? ⟨ab, off + k * 5 + 1, none⟩ = some (.int .i64 x.n) ∧ w'.cell? ⟨ab, off + k * 5 + 2, none⟩ = some (.string x.keep) ∧ w'.cell? ⟨ab, off + k * 5 + 3, none⟩ = some (.int .u8 x.c.toNat) ∧ w'.cell? ⟨ab, off + k * 5 + 4, none⟩ = some (.bool x.short)))) (by kernel_rfl) ⟨b6, a5⟩ (fun hS => ?_)
          refine wpAnyH_take (i := 0) (oi := { dst := some 64, op := Go.Op.move (Go.Operand.tmp 5), type := 54, pos := "law.go:119", after := #[], guard := none }) (v := ?_) rfl (by kernel_rfl) (by kernel_rfl) (by kernel_rfl) (fun _ _ _ h => h) (Or.inl ⟨by rfl, ?_⟩) hS ?_
          rotate_left
          · (intro w hSw; (try dsimp only at hSw); go_simp; (try with_reducible rfl))
          try simp only [Act.put, List.setIfInBounds_toArray, List.set_cons_zero, List.set_cons_succ]
          refine wpAnyH_take (i := 1) (oi := { dst := some 65, op := Go.Op.load 71 (Go.Operand.tmp 7), type := 71, pos := "law.go:119", after := #[], guard := none }) (v := ?_) rfl (by kernel_rfl) (by kernel_rfl) (by kernel_rfl) (fun _ _ _ h => h) (Or.inl ⟨by rfl, ?_⟩) hS ?_
          rotate_left
          · (intro w hSw; (try dsimp only at hSw); go_simp; (try with_reducible rfl))
          try simp only [Act.put, List.setIfInBounds_toArray, List.set_cons_zero, List.set_cons_succ]
          refine wpAnyH_take (i := 2) (oi := { dst := some 66, op := Go.Op.move (Go.Operand.tmp 1), type := 52, pos := "law.go:119", after := #[], guard := none }) (v := ?_) rfl (by kernel_rfl) (by kernel_rfl) (by kernel_rfl) (fun _ _ _ h => h) (Or.inl ⟨by rfl, ?_⟩) hS ?_
          rotate_left
          · (intro w hSw; (try dsimp only at hSw); go_simp; (try with_reducible rfl))
          try simp only [Act.put, List.setIfInBounds_toArray, List.set_cons_zero, List.set_cons_succ]
          refine wpAnyH_take (i := 3) (oi := { dst := some 67, op := Go.Op.move (Go.Operand.tmp 10), type := 3, pos := "law.go:119", after := #[], guard := none }) (v := ?_) rfl (by kernel_rfl) (by kernel_rfl) (by kernel_rfl) (fun _ _ _ h => h) (Or.inl ⟨by rfl, ?_⟩) hS ?_
          rotate_left
          · (intro w hSw; (try dsimp only at hSw); go_simp; (try with_reducible rfl))
          try simp only [Act.put, List.setIfInBounds_toArray, List.set_cons_zero, List.set_cons_succ]
          refine wpAnyH_take (i := 4) (oi := { dst := some 68, op := Go.Op.indexAddr 52 (Go.Operand.tmp 66) (Go.Operand.tmp 67), type := 0, pos := "law.go:119", after := #[{ on := 2, ground := Go.Ground.data }, { on := 3, ground := Go.Ground.data }], guard := none }) (v := ?_) rfl (by kernel_rfl) (by kernel_rfl) (by kernel_rfl) (fun _ _ _ h => h) (Or.inl ⟨by rfl, ?_⟩) hS ?_
          rotate_left
          · (intro w hSw; (try dsimp only at hSw); go_simp; (try with_reducible rfl))
          try simp only [Act.put, List.setIfInBounds_toArray, List.set_cons_zero, List.set_cons_succ]
          refine wpAnyH_take (i := 5) (oi := { dst := some 69, op := Go.Op.load 61 (Go.Operand.tmp 68), type := 61, pos := "law.go:119", after := #[{ on := 4, ground := Go.Ground.data }], guard := none }) (v := ?_) rfl (by kernel_rfl) (by kernel_rfl) (by kernel_rfl) (fun _ _ _ h => h) (Or.inl ⟨by rfl, ?_⟩) hS ?_
          rotate_left
          · (intro w hSw; (try dsimp only at hSw); go_simp; (try with_reducible rfl))
          try simp only [Act.put, List.setIfInBounds_toArray, List.set_cons_zero, List.set_cons_succ]
          refine wpAnyH_ready (rs := [6, 10]) (by kernel_rfl) (by simp) ?_
          refine (AllReadyH.cons (o := { dst := some 70, op := Go.Op.call { callee := Go.Callee.value (Go.Operand.func 45), args := #[Go.Operand.tmp 64, Go.Operand.tmp 65, Go.Operand.tmp 69], argTypes := #[54, 71, 61] }, type := 74, pos := "law.go:119", after := #[{ on := 0, ground := Go.Ground.data }, { on := 1, ground := Go.Ground.data }, { on := 5, ground := Go.Ground.data }], guard := none }) rfl (fun K hK => ?_) (AllReadyH.cons (o := { dst := some 11, op := Go.Op.alloc 71, type := 0, pos := "law.go:119", after := #[], guard := none }) rfl (fun K hK => ?_) AllReadyH.nil))
          focus
            (go_simp; (first | ((go_at_call 45; have H := does_any (F := [pt _ (.cells #[.slice none 0 0, .slice none 0 0, .bool false, .int .i64 0, .string ⟨#[]⟩, .int .u64 0] 71), disk q sc, pt bw (.cells #[.slice ao2 s.on.length c2, .slice aw2 s.wait.length d2, .bool s.dead, .int .i64 s.left, .string s.keep, .int .u64 s.acts] 71), pt bz (.cells #[.slice bo sc.on.length e2, .slice bv sc.wait.length f2, .bool sc.dead, .int .i64 sc.left, .string sc.keep, .int .u64 sc.acts] 71)]) (R := m ++ l) (x := x) hg (by omega) Hrs.out (hA.front 1 rfl); refine H.mono ?_; clear H; rintro e w7 ⟨v, rfl, m2, ys, rfl, hr, hC⟩); simp only [List.cons_append, List.nil_append] at hC; obtain ⟨ao3, c3, aw3, d3, rfl, k1, k2⟩ := hr; have Hr2 := SL.hid (⟨ao3, c3, aw3, d3, rfl, k1, k2⟩ : refIs (m2 ++ (m ++ l)) _ _); clear k1 k2; unfold rcells; have hY1 := hC) | ((go_at_call 45; have H := does_any (F := [disk q sc, pt bw (.cells #[.slice ao2 s.on.length c2, .slice aw2 s.wait.length d2, .bool s.dead, .int .i64 s.left, .string s.keep, .int .u64 s.acts] 71), pt bz (.cells #[.slice bo sc.on.length e2, .slice bv sc.wait.length f2, .bool sc.dead, .int .i64 sc.left, .string sc.keep, .int .u64 sc.acts] 71)]) (R := m ++ l) (x := x) hg (by omega) Hrs.out hED; refine H.mono ?_; clear H; rintro e w7 ⟨v, rfl, m2, ys, rfl, hr, hC⟩); simp only [List.cons_append, List.nil_append] at hC; obtain ⟨ao3, c3, aw3, d3, rfl, k1, k2⟩ := hr; have Hr2 := SL.hid (⟨ao3, c3, aw3, d3, rfl, k1, k2⟩ : refIs (m2 ++ (m ++ l)) _ _); clear k1 k2; unfold rcells)))
            refine hK.out _ _ (by first | exact ⟨(ref6 hC 3 rfl).1, H5.out _ hC.tail.tail.tail.tail.tail.drop.drop⟩ | exact ⟨(ref6 hC 2 rfl).1, H5.out _ hC.tail.tail.tail.tail.drop.drop⟩) (fun hS => ?_)
            clear hK K
            try simp only [Act.put, List.setIfInBounds_toArray, List.set_cons_zero, List.set_cons_succ]
            refine wpAnyH_take (i := 7) (oi := { dst := some 63, op := Go.Op.move (Go.Operand.tmp 70), type := 74, pos := "law.go:119", after := #[{ on := 6, ground := Go.Ground.data }], guard := none }) (v := ?_) rfl (by kernel_rfl) (by kernel_rfl) (by kernel_rfl) (fun _ _ _ h => h) (Or.inl ⟨by rfl, ?_⟩) hS ?_
            rotate_left
            · (intro w hSw; (try dsimp only at hSw); go_simp; (try with_reducible rfl))
            try simp only [Act.put, List.setIfInBounds_toArray, List.set_cons_zero, List.set_cons_succ]
            refine wpAnyH_take (i := 8) (oi := { dst := some 71, op := Go.Op.extract (Go.Operand.tmp 63) 0, type := 71, pos := "law.go:119", after := #[{ on := 7, ground := Go.Ground.data }], guard := none }) (v := ?_) rfl (by kernel_rfl) (by kernel_rfl) (by kernel_rfl) (fun _ _ _ h => h) (Or.inl ⟨by rfl, ?_⟩) hS ?_
            rotate_left
            · (intro w hSw; (try dsimp only at hSw); go_simp; (try with_reducible rfl))
            try simp only [Act.put, List.setIfInBounds_toArray, List.set_cons_zero, List.set_cons_succ]
            refine wpAnyH_take (i := 9) (oi := { dst := some 72, op := Go.Op.extract (Go.Operand.tmp 63) 1, type := 4, pos := "law.go:119", after := #[{ on := 7, ground := Go.Ground.data }, { on := 11, ground := Go.Ground.gcOnly Go.Departure.lateStores }], guard := none }) (v := ?_) rfl (by kernel_rfl) (by kernel_rfl) (by kernel_rfl) (fun _ _ _ h => h) (Or.inl ⟨by rfl, ?_⟩) hS ?_
            rotate_left
            · (intro w hSw; (try dsimp only at hSw); go_simp; (try with_reducible rfl))
            try simp only [Act.put, List.setIfInBounds_toArray, List.set_cons_zero, List.set_cons_succ]
            refine wpAnyH_ready (rs := [10]) (by kernel_rfl) (by simp) ?_
            refine (AllReadyH.cons (o := { dst := some 11, op := Go.Op.alloc 71, type := 0, pos := "law.go:119", after := #[], guard := none }) rfl (fun K hK => ?_) AllReadyH.nil)
            (go_simp; (first | (have hA := hC.alloc (.cells #[.slice none 0 0, .slice none 0 0, .bool false, .int .i64 0, .string ⟨#[]⟩, .int .u64 0] 71)) | have hA := (hE.alloc (.cells #[.slice none 0 0, .slice none 0 0, .bool false, .int .i64 0, .string ⟨#[]⟩, .int .u64 0] 71)).drew))
            refine hK.out _ _ (by first | exact ⟨(ref6 hA 3 rfl).1, H5.out _ hA.tail.tail.tail.tail.tail.drop⟩ | exact ⟨(ref6 hA 3 rfl).1, H5.out _ hA.tail.tail.tail.tail.tail.drop.drop⟩) (fun hS => ?_)
            clear hK K
            try simp only [Act.put, List.setIfInBounds_toArray, List.set_cons_zero, List.set_cons_succ]
            refine wpAnyH_ready (rs := [11]) (by kernel_rfl) (by simp) ?_
            refine (AllReadyH.cons (o := { dst := none, op := Go.Op.store 71 (Go.Operand.tmp 11) (Go.Operand.tmp 71), type := 0, pos := "law.go:119", after := #[{ on := 10, ground := Go.Ground.data }, { on := 8, ground := Go.Ground.data }, { on := 6, ground := Go.Ground.chain }, { on := 0, ground := Go.Ground.phase }, { on := 1, ground := Go.Ground.phase }, { on := 2, ground := Go.Ground.phase }, { on := 3, ground := Go.Ground.phase }, { on := 4, ground := Go.Ground.phase }, { on := 5, ground := Go.Ground.phase }, { on := 6, ground := Go.Ground.phase }, { on := 7, ground := Go.Ground.phase }, { on := 8, ground := Go.Ground.phase }, { on := 9, ground := Go.Ground.textOnly Go.Departure.lateStores }, { on := 10, ground := Go.Ground.phase }], guard := none }) rfl (fun K hK => ?_) AllReadyH.nil)
            (first | (obtain ⟨⟨f0, f1, f2, f3, f4, f5⟩, ff⟩ := ref6 hY1 1 rfl; go_simp; have hZ := ((((((hY1.setCell 1 rfl 0 (.slice ao3 (s.does x).on.length c3)).setCell 1 rfl 1 (.slice aw3 (s.does x).wait.length d3)).setCell 1 rfl 2 (.bool (s.does x).dead)).setCell 1 rfl 3 (.int .i64 (s.does x).left)).setCell 1 rfl 4 (.string (s.does x).keep)).setCell 1 rfl 5 (.int .u64 (s.does x).acts))) | (go_simp; have hZ := (hC.alloc (.cells #[.slice ao3 (s.does x).on.length c3, .slice aw3 (s.does x).wait.length d3, .bool (s.does x).dead, .int .i64 (s.does x).left, .string (s.does x).keep, .int .u64 (s.does x).acts] 71)).front 1 rfl))
            refine hK.out _ _ ⟨(ref6 hZ 3 rfl).1, H5.out _ hZ.tail.tail.tail.tail.tail.drop.drop⟩ (fun hS => ?_)
            clear hK K
            try simp only [Act.put, List.setIfInBounds_toArray, List.set_cons_zero, List.set_cons_succ]
            refine wpAnyH_take (i := 12) (oi := { dst := some 12, op := Go.Op.assign (Go.Operand.tmp 72), type := 4, pos := "law.go:119", after := #[{ on := 9, ground := Go.Ground.data }, { on := 11, ground := Go.Ground.chain }, { on := 0, ground := Go.Ground.phase }, { on := 1, ground := Go.Ground.phase }, { on := 2, ground := Go.Ground.phase }, { on := 3, ground := Go.Ground.phase }, { on := 4, ground := Go.Ground.phase }, { on := 5, ground := Go.Ground.phase }, { on := 6, ground := Go.Ground.phase }, { on := 7, ground := Go.Ground.phase }, { on := 8, ground := Go.Ground.phase }, { on := 9, ground := Go.Ground.phase }, { on := 10, ground := Go.Ground.phase }, { on := 11, ground := Go.Ground.phase }], guard := none }) (v := ?_) rfl (by kernel_rfl) (by kernel_rfl) (by kernel_rfl) (fun _ _ _ h => h) (Or.inl ⟨by rfl, ?_⟩) hS ?_
            rotate_left
            · (intro w hSw; (try dsimp only at hSw); go_simp; (try with_reducible rfl))
            try simp only [Act.put, List.setIfInBounds_toArray, List.set_cons_zero, List.set_cons_succ]
            refine wpAnyH_done (by kernel_rfl) ?_ _
            ((try simp only [List.set_cons_succ, List.set_cons_zero, List.setIfInBounds_toArray] at hZ); exact ⟨_, ao3, c3, aw3, d3, m2, by simp only [Act.put, List.setIfInBounds_toArray, List.set_cons_zero, List.set_cons_succ], Hr2.out, hZ⟩)
          focus
            (go_simp; (first | (have hA := hC.alloc (.cells #[.slice none 0 0, .slice none 0 0, .bool false, .int .i64 0, .string ⟨#[]⟩, .int .u64 0] 71)) | have hA := (hE.alloc (.cells #[.slice none 0 0, .slice none 0 0, .bool false, .int .i64 0, .string ⟨#[]⟩, .int .u64 0] 71)).drew))
            refine hK.out _ _ (by first | exact ⟨(ref6 hA 3 rfl).1, H5.out _ hA.tail.tail.tail.tail.tail.drop⟩ | exact ⟨(ref6 hA 3 rfl).1, H5.out _ hA.tail.tail.tail.tail.tail.drop.drop⟩) (fun hS => ?_)
            clear hK K
            try simp only [Act.put, List.setIfInBounds_toArray, List.set_cons_zero, List.set_cons_succ]
            refine wpAnyH_ready (rs := [6]) (by kernel_rfl) (by simp) ?_
            refine (AllReadyH.cons (o := { dst := some 70, op := Go.Op.call { callee := Go.Callee.value (Go.Operand.func 45), args := #[Go.Operand.tmp 64, Go.Operand.tmp 65, Go.Operand.tmp 69], argTypes := #[54, 71, 61] }, type := 74, pos := "law.go:119", after := #[{ on := 0, ground := Go.Ground.data }, { on := 1, ground := Go.Ground.data }, { on := 5, ground := Go.Ground.data }], guard := none }) rfl (fun K hK => ?_) AllReadyH.nil)
            (go_simp; (first | ((go_at_call 45; have H := does_any (F := [pt _ (.cells #[.slice none 0 0, .slice none 0 0, .bool false, .int .i64 0, .string ⟨#[]⟩, .int .u64 0] 71), disk q sc, pt bw (.cells #[.slice ao2 s.on.length c2, .slice aw2 s.wait.length d2, .bool s.dead, .int .i64 s.left, .string s.keep, .int .u64 s.acts] 71), pt bz (.cells #[.slice bo sc.on.length e2, .slice bv sc.wait.length f2, .bool sc.dead, .int .i64 sc.left, .string sc.keep, .int .u64 sc.acts] 71)]) (R := m ++ l) (x := x) hg (by omega) Hrs.out (hA.front 1 rfl); refine H.mono ?_; clear H; rintro e w7 ⟨v, rfl, m2, ys, rfl, hr, hC⟩); simp only [List.cons_append, List.nil_append] at hC; obtain ⟨ao3, c3, aw3, d3, rfl, k1, k2⟩ := hr; have Hr2 := SL.hid (⟨ao3, c3, aw3, d3, rfl, k1, k2⟩ : refIs (m2 ++ (m ++ l)) _ _); clear k1 k2; unfold rcells; have hY1 := hC) | ((go_at_call 45; have H := does_any (F := [disk q sc, pt bw (.cells #[.slice ao2 s.on.length c2, .slice aw2 s.wait.length d2, .bool s.dead, .int .i64 s.left, .string s.keep, .int .u64 s.acts] 71), pt bz (.cells #[.slice bo sc.on.length e2, .slice bv sc.wait.length f2, .bool sc.dead, .int .i64 sc.left, .string sc.keep, .int .u64 sc.acts] 71)]) (R := m ++ l) (x := x) hg (by omega) Hrs.out hED; refine H.mono ?_; clear H; rintro e w7 ⟨v, rfl, m2, ys, rfl, hr, hC⟩); simp only [List.cons_append, List.nil_append] at hC; obtain ⟨ao3, c3, aw3, d3, rfl, k1, k2⟩ := hr; have Hr2 := SL.hid (⟨ao3, c3, aw3, d3, rfl, k1, k2⟩ : refIs (m2 ++ (m ++ l)) _ _); clear k1 k2; unfold rcells)))
            refine hK.out _ _ (by first | exact ⟨(ref6 hC 3 rfl).1, H5.out _ hC.tail.tail.tail.tail.tail.drop.drop⟩ | exact ⟨(ref6 hC 2 rfl).1, H5.out _ hC.tail.tail.tail.tail.drop.drop⟩) (fun hS => ?_)
            clear hK K
            try simp only [Act.put, List.setIfInBounds_toArray, List.set_cons_zero, List.set_cons_succ]
            refine wpAnyH_take (i := 7) (oi := { dst := some 63, op := Go.Op.move (Go.Operand.tmp 70), type := 74, pos := "law.go:119", after := #[{ on := 6, ground := Go.Ground.data }], guard := none }) (v := ?_) rfl (by kernel_rfl) (by kernel_rfl) (by kernel_rfl) (fun _ _ _ h => h) (Or.inl ⟨by rfl, ?_⟩) hS ?_
            rotate_left
            · (intro w hSw; (try dsimp only at hSw); go_simp; (try with_reducible rfl))
            try simp only [Act.put, List.setIfInBounds_toArray, List.set_cons_zero, List.set_cons_succ]
            refine wpAnyH_take (i := 8) (oi := { dst := some 71, op := Go.Op.extract (Go.Operand.tmp 63) 0, type := 71, pos := "law.go:119", after := #[{ on := 7, ground := Go.Ground.data }], guard := none }) (v := ?_) rfl (by kernel_rfl) (by kernel_rfl) (by kernel_rfl) (fun _ _ _ h => h) (Or.inl ⟨by rfl, ?_⟩) hS ?_
            rotate_left
            · (intro w hSw; (try dsimp only at hSw); go_simp; (try with_reducible rfl))
            try simp only [Act.put, List.setIfInBounds_toArray, List.set_cons_zero, List.set_cons_succ]
            refine wpAnyH_take (i := 9) (oi := { dst := some 72, op := Go.Op.extract (Go.Operand.tmp 63) 1, type := 4, pos := "law.go:119", after := #[{ on := 7, ground := Go.Ground.data }, { on := 11, ground := Go.Ground.gcOnly Go.Departure.lateStores }], guard := none }) (v := ?_) rfl (by kernel_rfl) (by kernel_rfl) (by kernel_rfl) (fun _ _ _ h => h) (Or.inl ⟨by rfl, ?_⟩) hS ?_
            rotate_left
            · (intro w hSw; (try dsimp only at hSw); go_simp; (try with_reducible rfl))
            try simp only [Act.put, List.setIfInBounds_toArray, List.set_cons_zero, List.set_cons_succ]
            refine wpAnyH_ready (rs := [11]) (by kernel_rfl) (by simp) ?_
            refine (AllReadyH.cons (o := { dst := none, op := Go.Op.store 71 (Go.Operand.tmp 11) (Go.Operand.tmp 71), type := 0, pos := "law.go:119", after := #[{ on := 10, ground := Go.Ground.data }, { on := 8, ground := Go.Ground.data }, { on := 6, ground := Go.Ground.chain }, { on := 0, ground := Go.Ground.phase }, { on := 1, ground := Go.Ground.phase }, { on := 2, ground := Go.Ground.phase }, { on := 3, ground := Go.Ground.phase }, { on := 4, ground := Go.Ground.phase }, { on := 5, ground := Go.Ground.phase }, { on := 6, ground := Go.Ground.phase }, { on := 7, ground := Go.Ground.phase }, { on := 8, ground := Go.Ground.phase }, { on := 9, ground := Go.Ground.textOnly Go.Departure.lateStores }, { on := 10, ground := Go.Ground.phase }], guard := none }) rfl (fun K hK => ?_) AllReadyH.nil)
            (first | (obtain ⟨⟨f0, f1, f2, f3, f4, f5⟩, ff⟩ := ref6 hY1 1 rfl; go_simp; have hZ := ((((((hY1.setCell 1 rfl 0 (.slice ao3 (s.does x).on.length c3)).setCell 1 rfl 1 (.slice aw3 (s.does x).wait.length d3)).setCell 1 rfl 2 (.bool (s.does x).dead)).setCell 1 rfl 3 (.int .i64 (s.does x).left)).setCell 1 rfl 4 (.string (s.does x).keep)).setCell 1 rfl 5 (.int .u64 (s.does x).acts))) | (go_simp; have hZ := (hC.alloc (.cells #[.slice ao3 (s.does x).on.length c3, .slice aw3 (s.does x).wait.length d3, .bool (s.does x).dead, .int .i64 (s.does x).left, .string (s.does x).keep, .int .u64 (s.does x).acts] 71)).front 1 rfl))
            refine hK.out _ _ ⟨(ref6 hZ 3 rfl).1, H5.out _ hZ.tail.tail.tail.tail.tail.drop.drop⟩ (fun hS => ?_)
            clear hK K
            try simp only [Act.put, List.setIfInBounds_toArray, List.set_cons_zero, List.set_cons_succ]
            refine wpAnyH_take (i := 12) (oi := { dst := some 12, op := Go.Op.assign (Go.Operand.tmp 72), type := 4, pos := "law.go:119", after := #[{ on := 9, ground := Go.Ground.data }, { on := 11, ground := Go.Ground.chain }, { on := 0, ground := Go.Ground.phase }, { on := 1, ground := Go.Ground.phase }, { on := 2, ground := Go.Ground.phase }, { on := 3, ground := Go.Ground.phase }, { on := 4, ground := Go.Ground.phase }, { on := 5, ground := Go.Ground.phase }, { on := 6, ground := Go.Ground.phase }, { on := 7, ground := Go.Ground.phase }, { on := 8, ground := Go.Ground.phase }, { on := 9, ground := Go.Ground.phase }, { on := 10, ground := Go.Ground.phase }, { on := 11, ground := Go.Ground.phase }], guard := none }) (v := ?_) rfl (by kernel_rfl) (by kernel_rfl) (by kernel_rfl) (fun _ _ _ h => h) (Or.inl ⟨by rfl, ?_⟩) hS ?_
            rotate_left
            · (intro w hSw; (try dsimp only at hSw); go_simp; (try with_reducible rfl))
            try simp only [Act.put, List.setIfInBounds_toArray, List.set_cons_zero, List.set_cons_succ]
            refine wpAnyH_done (by kernel_rfl) ?_ _
            ((try simp only [List.set_cons_succ, List.set_cons_zero, List.setIfInBounds_toArray] at hZ); exact ⟨_, ao3, c3, aw3, d3, m2, by simp only [Act.put, List.setIfInBounds_toArray, List.set_cons_zero, List.set_cons_succ], Hr2.out, hZ⟩)
          rintro a' w4 ⟨b11, ao3, c3, aw3, d3, m2, rfl, hr2, hE⟩
          have Hr2 := SL.hid hr2
          clear hr2 hED b6 a5
          simp only [Act.put, List.setIfInBounds_toArray, List.set_cons_zero, List.set_cons_succ]
          go_wp2_with (first
            | go_skip
            | (refine wpl_loadW hE 1 rfl rfl rfl rfl Try.isAgg71 Try.sizeOf71 rfl ?_)
            | (refine wpl_storeN hE 3 rfl rfl rfl rfl rfl Try.sizeOf71 rfl (by simp [Value.oneCell']) rfl ?_; clear hE; intro w5 hE; simp only [List.set_cons_succ, List.set_cons_zero] at hE)
            | (go_at_call 44; have H := Copy_any hg' (by rw [Hon'.out]; omega) (by omega) hE; refine H.mono ?_; clear H hE; rintro e w6 ⟨v, rfl, q2, rfl, hE2⟩)
            | (refine wpl_loadW hE2 4 rfl rfl rfl rfl Try.isAgg71 Try.sizeOf71 rfl ?_)
            | (refine wpl_storeN hE2 5 rfl rfl rfl rfl rfl Try.sizeOf71 rfl (by simp [Value.oneCell']) rfl ?_; clear hE2; intro w7 hE3; simp only [List.set_cons_succ, List.set_cons_zero] at hE3))
          go_roundw
          case rel =>
            rw [← List.append_assoc] at hE3 Hr2
            exact ⟨k + 1, q2, s.does x, s.does x, m2 ++ m, ao3, aw3, ao3, aw3, c3, d3, c3, d3, hlt, by simp, rfl, hg', hg', Hon'.out, Hon'.out, hw', by omega, Hr2.out, Hr2.out, ((hE3.front 1 rfl).erase 2).erase 2⟩
          case measure => simp [intOf]; omega
        | false =>
          go_wp2_with (first | go_skip)
          have hED := hE.drew
          have b6 := (ref6 hED 2 rfl).1
          have a5 := H5.out _ hED.tail.tail.tail.tail.drop
          refine wp_meet (fun A a' w' => ∃ b11 ao3 c3 aw3 d3 m2, a' = ((((((((((((A.put (some 64) (.pointer (some ⟨p, 0, none⟩))).put (some 65) (.agg #[.slice ao2 s.on.length c2, .slice aw2 s.wait.length d2, .bool s.dead, .int .i64 s.left, .string s.keep, .int .u64 s.acts])).put (some 66) (.slice (some ⟨ab, off, none⟩) xs.length c)).put (some 67) (.int .i64 k)).put (some 68) (.pointer (some ⟨ab, off + k * 5, none⟩))).put (some 69) (.agg #[.int .u8 x.do_.toNat, .int .i64 x.n, .string x.keep, .int .u8 x.c.toNat, .bool x.short])).put (some 70) (.tuple #[.agg #[.slice ao3 (s.does x).on.length c3, .slice aw3 (s.does x).wait.length d3, .bool (s.does x).dead, .int .i64 (s.does x).left, .string (s.does x).keep, .int .u64 (s.does x).acts], .bool true])).put (some 63) (.tuple #[.agg #[.slice ao3 (s.does x).on.length c3, .slice aw3 (s.does x).wait.length d3, .bool (s.does x).dead, .int .i64 (s.does x).left, .string (s.does x).keep, .int .u64 (s.does x).acts], .bool true])).put (some 71) (.agg #[.slice ao3 (s.does x).on.length c3, .slice aw3 (s.does x).wait.length d3, .bool (s.does x).dead, .int .i64 (s.does x).left, .string (s.does x).keep, .int .u64 (s.does x).acts])).put (some 72) (.bool true)).put (some 11) (.pointer (some ⟨b11, 0, none⟩))).put (some 12) (.bool true)) ∧
            refIs (m2 ++ (m ++ l)) [.slice ao3 (s.does x).on.length c3, .slice aw3 (s.does x).wait.length d3, .bool (s.does x).dead, .int .i64 (s.does x).left, .string (s.does x).keep, .int .u64 (s.does x).acts] (s.does x) ∧ Ent (disk p (s.does x) :: pt b11 (.cells #[.slice ao3 (s.does x).on.length c3, .slice aw3 (s.does x).wait.length d3, .bool (s.does x).dead, .int .i64 (s.does x).left, .string (s.does x).keep, .int .u64 (s.does x).acts] 71) :: disk q sc :: pt bw (.cells #[.slice ao2 s.on.length c2, .slice aw2 s.wait.length d2, .bool s.dead, .int .i64 s.left, .string s.keep, .int .u64 s.acts] 71) :: pt bz (.cells #[.slice bo sc.on.length e2, .slice bv sc.wait.length f2, .bool sc.dead, .int .i64 sc.left, .string sc.keep, .int .u64 sc.acts] 71) :: (m2 ++ (m ++ l))) w') ?_ ?_
          refine wp_region_held_drew (S := (fun w' => (w'.cell? ⟨bw, 0, none⟩ = some (.slice ao2 s.on.length c2) ∧ w'.cell? ⟨bw, 1, none⟩ = some (.slice aw2 s.wait.length d2) ∧ w'.cell? ⟨bw, 2, none⟩ = some (.bool s.dead) ∧ w'.cell? ⟨bw, 3, none⟩ = some (.int .i64 s.left) ∧ w'.cell? ⟨bw, 4, none⟩ = some (.string s.keep) ∧ w'.cell? ⟨bw, 5, none⟩ = some (.int .u64 s.acts)) ∧ (w'.cell? ⟨ab, off + k * 5, none⟩ = some (.int .u8 x.do_.toNat) ∧ w'.cell? ⟨ab, off + k * 5 + 1, none⟩ = some (.int .i64 x.n) ∧ w'.cell? ⟨ab, off + k * 5 + 2, none⟩ = some (.string x.keep) ∧ w'.cell? ⟨ab, off + k * 5 + 3, none⟩ = some (.int .u8 x.c.toNat) ∧ w'.cell? ⟨ab, off + k * 5 + 4, none⟩ = some (.bool x.short)))) (by kernel_rfl) ⟨b6, a5⟩ (fun hS => ?_)
          refine wpAnyH_take (i := 0) (oi := { dst := some 64, op := Go.Op.move (Go.Operand.tmp 5), type := 54, pos := "law.go:119", after := #[], guard := none }) (v := ?_) rfl (by kernel_rfl) (by kernel_rfl) (by kernel_rfl) (fun _ _ _ h => h) (Or.inl ⟨by rfl, ?_⟩) hS ?_
          rotate_left
          · (intro w hSw; (try dsimp only at hSw); go_simp; (try with_reducible rfl))
          try simp only [Act.put, List.setIfInBounds_toArray, List.set_cons_zero, List.set_cons_succ]
          refine wpAnyH_take (i := 1) (oi := { dst := some 65, op := Go.Op.load 71 (Go.Operand.tmp 7), type := 71, pos := "law.go:119", after := #[], guard := none }) (v := ?_) rfl (by kernel_rfl) (by kernel_rfl) (by kernel_rfl) (fun _ _ _ h => h) (Or.inl ⟨by rfl, ?_⟩) hS ?_
          rotate_left
          · (intro w hSw; (try dsimp only at hSw); go_simp; (try with_reducible rfl))
          try simp only [Act.put, List.setIfInBounds_toArray, List.set_cons_zero, List.set_cons_succ]
          refine wpAnyH_take (i := 2) (oi := { dst := some 66, op := Go.Op.move (Go.Operand.tmp 1), type := 52, pos := "law.go:119", after := #[], guard := none }) (v := ?_) rfl (by kernel_rfl) (by kernel_rfl) (by kernel_rfl) (fun _ _ _ h => h) (Or.inl ⟨by rfl, ?_⟩) hS ?_
          rotate_left
          · (intro w hSw; (try dsimp only at hSw); go_simp; (try with_reducible rfl))
          try simp only [Act.put, List.setIfInBounds_toArray, List.set_cons_zero, List.set_cons_succ]
          refine wpAnyH_take (i := 3) (oi := { dst := some 67, op := Go.Op.move (Go.Operand.tmp 10), type := 3, pos := "law.go:119", after := #[], guard := none }) (v := ?_) rfl (by kernel_rfl) (by kernel_rfl) (by kernel_rfl) (fun _ _ _ h => h) (Or.inl ⟨by rfl, ?_⟩) hS ?_
          rotate_left
          · (intro w hSw; (try dsimp only at hSw); go_simp; (try with_reducible rfl))
          try simp only [Act.put, List.setIfInBounds_toArray, List.set_cons_zero, List.set_cons_succ]
          refine wpAnyH_take (i := 4) (oi := { dst := some 68, op := Go.Op.indexAddr 52 (Go.Operand.tmp 66) (Go.Operand.tmp 67), type := 0, pos := "law.go:119", after := #[{ on := 2, ground := Go.Ground.data }, { on := 3, ground := Go.Ground.data }], guard := none }) (v := ?_) rfl (by kernel_rfl) (by kernel_rfl) (by kernel_rfl) (fun _ _ _ h => h) (Or.inl ⟨by rfl, ?_⟩) hS ?_
          rotate_left
          · (intro w hSw; (try dsimp only at hSw); go_simp; (try with_reducible rfl))
          try simp only [Act.put, List.setIfInBounds_toArray, List.set_cons_zero, List.set_cons_succ]
          refine wpAnyH_take (i := 5) (oi := { dst := some 69, op := Go.Op.load 61 (Go.Operand.tmp 68), type := 61, pos := "law.go:119", after := #[{ on := 4, ground := Go.Ground.data }], guard := none }) (v := ?_) rfl (by kernel_rfl) (by kernel_rfl) (by kernel_rfl) (fun _ _ _ h => h) (Or.inl ⟨by rfl, ?_⟩) hS ?_
          rotate_left
          · (intro w hSw; (try dsimp only at hSw); go_simp; (try with_reducible rfl))
          try simp only [Act.put, List.setIfInBounds_toArray, List.set_cons_zero, List.set_cons_succ]
          refine wpAnyH_ready (rs := [6, 10]) (by kernel_rfl) (by simp) ?_
          refine (AllReadyH.cons (o := { dst := some 70, op := Go.Op.call { callee := Go.Callee.value (Go.Operand.func 45), args := #[Go.Operand.tmp 64, Go.Operand.tmp 65, Go.Operand.tmp 69], argTypes := #[54, 71, 61] }, type := 74, pos := "law.go:119", after := #[{ on := 0, ground := Go.Ground.data }, { on := 1, ground := Go.Ground.data }, { on := 5, ground := Go.Ground.data }], guard := none }) rfl (fun K hK => ?_) (AllReadyH.cons (o := { dst := some 11, op := Go.Op.alloc 71, type := 0, pos := "law.go:119", after := #[], guard := none }) rfl (fun K hK => ?_) AllReadyH.nil))
          focus
            (go_simp; (first | ((go_at_call 45; have H := does_any (F := [pt _ (.cells #[.slice none 0 0, .slice none 0 0, .bool false, .int .i64 0, .string ⟨#[]⟩, .int .u64 0] 71), disk q sc, pt bw (.cells #[.slice ao2 s.on.length c2, .slice aw2 s.wait.length d2, .bool s.dead, .int .i64 s.left, .string s.keep, .int .u64 s.acts] 71), pt bz (.cells #[.slice bo sc.on.length e2, .slice bv sc.wait.length f2, .bool sc.dead, .int .i64 sc.left, .string sc.keep, .int .u64 sc.acts] 71)]) (R := m ++ l) (x := x) hg (by omega) Hrs.out (hA.front 1 rfl); refine H.mono ?_; clear H; rintro e w7 ⟨v, rfl, m2, ys, rfl, hr, hC⟩); simp only [List.cons_append, List.nil_append] at hC; obtain ⟨ao3, c3, aw3, d3, rfl, k1, k2⟩ := hr; have Hr2 := SL.hid (⟨ao3, c3, aw3, d3, rfl, k1, k2⟩ : refIs (m2 ++ (m ++ l)) _ _); clear k1 k2; unfold rcells; have hY1 := hC) | ((go_at_call 45; have H := does_any (F := [disk q sc, pt bw (.cells #[.slice ao2 s.on.length c2, .slice aw2 s.wait.length d2, .bool s.dead, .int .i64 s.left, .string s.keep, .int .u64 s.acts] 71), pt bz (.cells #[.slice bo sc.on.length e2, .slice bv sc.wait.length f2, .bool sc.dead, .int .i64 sc.left, .string sc.keep, .int .u64 sc.acts] 71)]) (R := m ++ l) (x := x) hg (by omega) Hrs.out hED; refine H.mono ?_; clear H; rintro e w7 ⟨v, rfl, m2, ys, rfl, hr, hC⟩); simp only [List.cons_append, List.nil_append] at hC; obtain ⟨ao3, c3, aw3, d3, rfl, k1, k2⟩ := hr; have Hr2 := SL.hid (⟨ao3, c3, aw3, d3, rfl, k1, k2⟩ : refIs (m2 ++ (m ++ l)) _ _); clear k1 k2; unfold rcells)))
            refine hK.out _ _ (by first | exact ⟨(ref6 hC 3 rfl).1, H5.out _ hC.tail.tail.tail.tail.tail.drop.drop⟩ | exact ⟨(ref6 hC 2 rfl).1, H5.out _ hC.tail.tail.tail.tail.drop.drop⟩) (fun hS => ?_)
            clear hK K
            try simp only [Act.put, List.setIfInBounds_toArray, List.set_cons_zero, List.set_cons_succ]
            refine wpAnyH_take (i := 7) (oi := { dst := some 63, op := Go.Op.move (Go.Operand.tmp 70), type := 74, pos := "law.go:119", after := #[{ on := 6, ground := Go.Ground.data }], guard := none }) (v := ?_) rfl (by kernel_rfl) (by kernel_rfl) (by kernel_rfl) (fun _ _ _ h => h) (Or.inl ⟨by rfl, ?_⟩) hS ?_
            rotate_left
            · (intro w hSw; (try dsimp only at hSw); go_simp; (try with_reducible rfl))
            try simp only [Act.put, List.setIfInBounds_toArray, List.set_cons_zero, List.set_cons_succ]
            refine wpAnyH_take (i := 8) (oi := { dst := some 71, op := Go.Op.extract (Go.Operand.tmp 63) 0, type := 71, pos := "law.go:119", after := #[{ on := 7, ground := Go.Ground.data }], guard := none }) (v := ?_) rfl (by kernel_rfl) (by kernel_rfl) (by kernel_rfl) (fun _ _ _ h => h) (Or.inl ⟨by rfl, ?_⟩) hS ?_
            rotate_left
            · (intro w hSw; (try dsimp only at hSw); go_simp; (try with_reducible rfl))
            try simp only [Act.put, List.setIfInBounds_toArray, List.set_cons_zero, List.set_cons_succ]
            refine wpAnyH_take (i := 9) (oi := { dst := some 72, op := Go.Op.extract (Go.Operand.tmp 63) 1, type := 4, pos := "law.go:119", after := #[{ on := 7, ground := Go.Ground.data }, { on := 11, ground := Go.Ground.gcOnly Go.Departure.lateStores }], guard := none }) (v := ?_) rfl (by kernel_rfl) (by kernel_rfl) (by kernel_rfl) (fun _ _ _ h => h) (Or.inl ⟨by rfl, ?_⟩) hS ?_
            rotate_left
            · (intro w hSw; (try dsimp only at hSw); go_simp; (try with_reducible rfl))
            try simp only [Act.put, List.setIfInBounds_toArray, List.set_cons_zero, List.set_cons_succ]
            refine wpAnyH_ready (rs := [10]) (by kernel_rfl) (by simp) ?_
            refine (AllReadyH.cons (o := { dst := some 11, op := Go.Op.alloc 71, type := 0, pos := "law.go:119", after := #[], guard := none }) rfl (fun K hK => ?_) AllReadyH.nil)
            (go_simp; (first | (have hA := hC.alloc (.cells #[.slice none 0 0, .slice none 0 0, .bool false, .int .i64 0, .string ⟨#[]⟩, .int .u64 0] 71)) | have hA := (hE.alloc (.cells #[.slice none 0 0, .slice none 0 0, .bool false, .int .i64 0, .string ⟨#[]⟩, .int .u64 0] 71)).drew))
            refine hK.out _ _ (by first | exact ⟨(ref6 hA 3 rfl).1, H5.out _ hA.tail.tail.tail.tail.tail.drop⟩ | exact ⟨(ref6 hA 3 rfl).1, H5.out _ hA.tail.tail.tail.tail.tail.drop.drop⟩) (fun hS => ?_)
            clear hK K
            try simp only [Act.put, List.setIfInBounds_toArray, List.set_cons_zero, List.set_cons_succ]
            refine wpAnyH_ready (rs := [11]) (by kernel_rfl) (by simp) ?_
            refine (AllReadyH.cons (o := { dst := none, op := Go.Op.store 71 (Go.Operand.tmp 11) (Go.Operand.tmp 71), type := 0, pos := "law.go:119", after := #[{ on := 10, ground := Go.Ground.data }, { on := 8, ground := Go.Ground.data }, { on := 6, ground := Go.Ground.chain }, { on := 0, ground := Go.Ground.phase }, { on := 1, ground := Go.Ground.phase }, { on := 2, ground := Go.Ground.phase }, { on := 3, ground := Go.Ground.phase }, { on := 4, ground := Go.Ground.phase }, { on := 5, ground := Go.Ground.phase }, { on := 6, ground := Go.Ground.phase }, { on := 7, ground := Go.Ground.phase }, { on := 8, ground := Go.Ground.phase }, { on := 9, ground := Go.Ground.textOnly Go.Departure.lateStores }, { on := 10, ground := Go.Ground.phase }], guard := none }) rfl (fun K hK => ?_) AllReadyH.nil)
            (first | (obtain ⟨⟨f0, f1, f2, f3, f4, f5⟩, ff⟩ := ref6 hY1 1 rfl; go_simp; have hZ := ((((((hY1.setCell 1 rfl 0 (.slice ao3 (s.does x).on.length c3)).setCell 1 rfl 1 (.slice aw3 (s.does x).wait.length d3)).setCell 1 rfl 2 (.bool (s.does x).dead)).setCell 1 rfl 3 (.int .i64 (s.does x).left)).setCell 1 rfl 4 (.string (s.does x).keep)).setCell 1 rfl 5 (.int .u64 (s.does x).acts))) | (go_simp; have hZ := (hC.alloc (.cells #[.slice ao3 (s.does x).on.length c3, .slice aw3 (s.does x).wait.length d3, .bool (s.does x).dead, .int .i64 (s.does x).left, .string (s.does x).keep, .int .u64 (s.does x).acts] 71)).front 1 rfl))
            refine hK.out _ _ ⟨(ref6 hZ 3 rfl).1, H5.out _ hZ.tail.tail.tail.tail.tail.drop.drop⟩ (fun hS => ?_)
            clear hK K
            try simp only [Act.put, List.setIfInBounds_toArray, List.set_cons_zero, List.set_cons_succ]
            refine wpAnyH_take (i := 12) (oi := { dst := some 12, op := Go.Op.assign (Go.Operand.tmp 72), type := 4, pos := "law.go:119", after := #[{ on := 9, ground := Go.Ground.data }, { on := 11, ground := Go.Ground.chain }, { on := 0, ground := Go.Ground.phase }, { on := 1, ground := Go.Ground.phase }, { on := 2, ground := Go.Ground.phase }, { on := 3, ground := Go.Ground.phase }, { on := 4, ground := Go.Ground.phase }, { on := 5, ground := Go.Ground.phase }, { on := 6, ground := Go.Ground.phase }, { on := 7, ground := Go.Ground.phase }, { on := 8, ground := Go.Ground.phase }, { on := 9, ground := Go.Ground.phase }, { on := 10, ground := Go.Ground.phase }, { on := 11, ground := Go.Ground.phase }], guard := none }) (v := ?_) rfl (by kernel_rfl) (by kernel_rfl) (by kernel_rfl) (fun _ _ _ h => h) (Or.inl ⟨by rfl, ?_⟩) hS ?_
            rotate_left
            · (intro w hSw; (try dsimp only at hSw); go_simp; (try with_reducible rfl))
            try simp only [Act.put, List.setIfInBounds_toArray, List.set_cons_zero, List.set_cons_succ]
            refine wpAnyH_done (by kernel_rfl) ?_ _
            ((try simp only [List.set_cons_succ, List.set_cons_zero, List.setIfInBounds_toArray] at hZ); exact ⟨_, ao3, c3, aw3, d3, m2, by simp only [Act.put, List.setIfInBounds_toArray, List.set_cons_zero, List.set_cons_succ], Hr2.out, hZ⟩)
          focus
            (go_simp; (first | (have hA := hC.alloc (.cells #[.slice none 0 0, .slice none 0 0, .bool false, .int .i64 0, .string ⟨#[]⟩, .int .u64 0] 71)) | have hA := (hE.alloc (.cells #[.slice none 0 0, .slice none 0 0, .bool false, .int .i64 0, .string ⟨#[]⟩, .int .u64 0] 71)).drew))
            refine hK.out _ _ (by first | exact ⟨(ref6 hA 3 rfl).1, H5.out _ hA.tail.tail.tail.tail.tail.drop⟩ | exact ⟨(ref6 hA 3 rfl).1, H5.out _ hA.tail.tail.tail.tail.tail.drop.drop⟩) (fun hS => ?_)
            clear hK K
            try simp only [Act.put, List.setIfInBounds_toArray, List.set_cons_zero, List.set_cons_succ]
            refine wpAnyH_ready (rs := [6]) (by kernel_rfl) (by simp) ?_
            refine (AllReadyH.cons (o := { dst := some 70, op := Go.Op.call { callee := Go.Callee.value (Go.Operand.func 45), args := #[Go.Operand.tmp 64, Go.Operand.tmp 65, Go.Operand.tmp 69], argTypes := #[54, 71, 61] }, type := 74, pos := "law.go:119", after := #[{ on := 0, ground := Go.Ground.data }, { on := 1, ground := Go.Ground.data }, { on := 5, ground := Go.Ground.data }], guard := none }) rfl (fun K hK => ?_) AllReadyH.nil)
            (go_simp; (first | ((go_at_call 45; have H := does_any (F := [pt _ (.cells #[.slice none 0 0, .slice none 0 0, .bool false, .int .i64 0, .string ⟨#[]⟩, .int .u64 0] 71), disk q sc, pt bw (.cells #[.slice ao2 s.on.length c2, .slice aw2 s.wait.length d2, .bool s.dead, .int .i64 s.left, .string s.keep, .int .u64 s.acts] 71), pt bz (.cells #[.slice bo sc.on.length e2, .slice bv sc.wait.length f2, .bool sc.dead, .int .i64 sc.left, .string sc.keep, .int .u64 sc.acts] 71)]) (R := m ++ l) (x := x) hg (by omega) Hrs.out (hA.front 1 rfl); refine H.mono ?_; clear H; rintro e w7 ⟨v, rfl, m2, ys, rfl, hr, hC⟩); simp only [List.cons_append, List.nil_append] at hC; obtain ⟨ao3, c3, aw3, d3, rfl, k1, k2⟩ := hr; have Hr2 := SL.hid (⟨ao3, c3, aw3, d3, rfl, k1, k2⟩ : refIs (m2 ++ (m ++ l)) _ _); clear k1 k2; unfold rcells; have hY1 := hC) | ((go_at_call 45; have H := does_any (F := [disk q sc, pt bw (.cells #[.slice ao2 s.on.length c2, .slice aw2 s.wait.length d2, .bool s.dead, .int .i64 s.left, .string s.keep, .int .u64 s.acts] 71), pt bz (.cells #[.slice bo sc.on.length e2, .slice bv sc.wait.length f2, .bool sc.dead, .int .i64 sc.left, .string sc.keep, .int .u64 sc.acts] 71)]) (R := m ++ l) (x := x) hg (by omega) Hrs.out hED; refine H.mono ?_; clear H; rintro e w7 ⟨v, rfl, m2, ys, rfl, hr, hC⟩); simp only [List.cons_append, List.nil_append] at hC; obtain ⟨ao3, c3, aw3, d3, rfl, k1, k2⟩ := hr; have Hr2 := SL.hid (⟨ao3, c3, aw3, d3, rfl, k1, k2⟩ : refIs (m2 ++ (m ++ l)) _ _); clear k1 k2; unfold rcells)))
            refine hK.out _ _ (by first | exact ⟨(ref6 hC 3 rfl).1, H5.out _ hC.tail.tail.tail.tail.tail.drop.drop⟩ | exact ⟨(ref6 hC 2 rfl).1, H5.out _ hC.tail.tail.tail.tail.drop.drop⟩) (fun hS => ?_)
            clear hK K
            try simp only [Act.put, List.setIfInBounds_toArray, List.set_cons_zero, List.set_cons_succ]
            refine wpAnyH_take (i := 7) (oi := { dst := some 63, op := Go.Op.move (Go.Operand.tmp 70), type := 74, pos := "law.go:119", after := #[{ on := 6, ground := Go.Ground.data }], guard := none }) (v := ?_) rfl (by kernel_rfl) (by kernel_rfl) (by kernel_rfl) (fun _ _ _ h => h) (Or.inl ⟨by rfl, ?_⟩) hS ?_
            rotate_left
            · (intro w hSw; (try dsimp only at hSw); go_simp; (try with_reducible rfl))
            try simp only [Act.put, List.setIfInBounds_toArray, List.set_cons_zero, List.set_cons_succ]
            refine wpAnyH_take (i := 8) (oi := { dst := some 71, op := Go.Op.extract (Go.Operand.tmp 63) 0, type := 71, pos := "law.go:119", after := #[{ on := 7, ground := Go.Ground.data }], guard := none }) (v := ?_) rfl (by kernel_rfl) (by kernel_rfl) (by kernel_rfl) (fun _ _ _ h => h) (Or.inl ⟨by rfl, ?_⟩) hS ?_
            rotate_left
            · (intro w hSw; (try dsimp only at hSw); go_simp; (try with_reducible rfl))
            try simp only [Act.put, List.setIfInBounds_toArray, List.set_cons_zero, List.set_cons_succ]
            refine wpAnyH_take (i := 9) (oi := { dst := some 72, op := Go.Op.extract (Go.Operand.tmp 63) 1, type := 4, pos := "law.go:119", after := #[{ on := 7, ground := Go.Ground.data }, { on := 11, ground := Go.Ground.gcOnly Go.Departure.lateStores }], guard := none }) (v := ?_) rfl (by kernel_rfl) (by kernel_rfl) (by kernel_rfl) (fun _ _ _ h => h) (Or.inl ⟨by rfl, ?_⟩) hS ?_
            rotate_left
            · (intro w hSw; (try dsimp only at hSw); go_simp; (try with_reducible rfl))
            try simp only [Act.put, List.setIfInBounds_toArray, List.set_cons_zero, List.set_cons_succ]
            refine wpAnyH_ready (rs := [11]) (by kernel_rfl) (by simp) ?_
            refine (AllReadyH.cons (o := { dst := none, op := Go.Op.store 71 (Go.Operand.tmp 11) (Go.Operand.tmp 71), type := 0, pos := "law.go:119", after := #[{ on := 10, ground := Go.Ground.data }, { on := 8, ground := Go.Ground.data }, { on := 6, ground := Go.Ground.chain }, { on := 0, ground := Go.Ground.phase }, { on := 1, ground := Go.Ground.phase }, { on := 2, ground := Go.Ground.phase }, { on := 3, ground := Go.Ground.phase }, { on := 4, ground := Go.Ground.phase }, { on := 5, ground := Go.Ground.phase }, { on := 6, ground := Go.Ground.phase }, { on := 7, ground := Go.Ground.phase }, { on := 8, ground := Go.Ground.phase }, { on := 9, ground := Go.Ground.textOnly Go.Departure.lateStores }, { on := 10, ground := Go.Ground.phase }], guard := none }) rfl (fun K hK => ?_) AllReadyH.nil)
            (first | (obtain ⟨⟨f0, f1, f2, f3, f4, f5⟩, ff⟩ := ref6 hY1 1 rfl; go_simp; have hZ := ((((((hY1.setCell 1 rfl 0 (.slice ao3 (s.does x).on.length c3)).setCell 1 rfl 1 (.slice aw3 (s.does x).wait.length d3)).setCell 1 rfl 2 (.bool (s.does x).dead)).setCell 1 rfl 3 (.int .i64 (s.does x).left)).setCell 1 rfl 4 (.string (s.does x).keep)).setCell 1 rfl 5 (.int .u64 (s.does x).acts))) | (go_simp; have hZ := (hC.alloc (.cells #[.slice ao3 (s.does x).on.length c3, .slice aw3 (s.does x).wait.length d3, .bool (s.does x).dead, .int .i64 (s.does x).left, .string (s.does x).keep, .int .u64 (s.does x).acts] 71)).front 1 rfl))
            refine hK.out _ _ ⟨(ref6 hZ 3 rfl).1, H5.out _ hZ.tail.tail.tail.tail.tail.drop.drop⟩ (fun hS => ?_)
            clear hK K
            try simp only [Act.put, List.setIfInBounds_toArray, List.set_cons_zero, List.set_cons_succ]
            refine wpAnyH_take (i := 12) (oi := { dst := some 12, op := Go.Op.assign (Go.Operand.tmp 72), type := 4, pos := "law.go:119", after := #[{ on := 9, ground := Go.Ground.data }, { on := 11, ground := Go.Ground.chain }, { on := 0, ground := Go.Ground.phase }, { on := 1, ground := Go.Ground.phase }, { on := 2, ground := Go.Ground.phase }, { on := 3, ground := Go.Ground.phase }, { on := 4, ground := Go.Ground.phase }, { on := 5, ground := Go.Ground.phase }, { on := 6, ground := Go.Ground.phase }, { on := 7, ground := Go.Ground.phase }, { on := 8, ground := Go.Ground.phase }, { on := 9, ground := Go.Ground.phase }, { on := 10, ground := Go.Ground.phase }, { on := 11, ground := Go.Ground.phase }], guard := none }) (v := ?_) rfl (by kernel_rfl) (by kernel_rfl) (by kernel_rfl) (fun _ _ _ h => h) (Or.inl ⟨by rfl, ?_⟩) hS ?_
            rotate_left
            · (intro w hSw; (try dsimp only at hSw); go_simp; (try with_reducible rfl))
            try simp only [Act.put, List.setIfInBounds_toArray, List.set_cons_zero, List.set_cons_succ]
            refine wpAnyH_done (by kernel_rfl) ?_ _
            ((try simp only [List.set_cons_succ, List.set_cons_zero, List.setIfInBounds_toArray] at hZ); exact ⟨_, ao3, c3, aw3, d3, m2, by simp only [Act.put, List.setIfInBounds_toArray, List.set_cons_zero, List.set_cons_succ], Hr2.out, hZ⟩)
          rintro a' w4 ⟨b11, ao3, c3, aw3, d3, m2, rfl, hr2, hE⟩
          have Hr2 := SL.hid hr2
          clear hr2 hED b6 a5
          simp only [Act.put, List.setIfInBounds_toArray, List.set_cons_zero, List.set_cons_succ]
          go_wp2_with (first
            | go_skip
            | (refine wpl_loadW hE 1 rfl rfl rfl rfl Try.isAgg71 Try.sizeOf71 rfl ?_)
            | (refine wpl_storeN hE 3 rfl rfl rfl rfl rfl Try.sizeOf71 rfl (by simp [Value.oneCell']) rfl ?_; clear hE; intro w5 hE; simp only [List.set_cons_succ, List.set_cons_zero] at hE))
          go_roundw
          case rel =>
            have h6 : refIs (m2 ++ (m ++ l)) (rcells sc bo e2 bv f2) sc := refIs.append Hrc.out
            rw [← List.append_assoc] at hE Hr2 h6
            exact ⟨k + 1, q, s.does x, sc, m2 ++ m, ao3, aw3, bo, bv, c3, d3, e2, f2, hlt, by simp, rfl, hg', hgc, Hon'.out, Honc.out, hw', hwc, Hr2.out, h6, hE.erase 1⟩
          case measure => simp [intOf]; omega
      · have hk2 : k = xs.length := by omega
        have hlt' : ¬ k < xs.length := hlt
        go_wp2_with (first | go_skip)
        have hED := hE.drew
        have b6 := (ref6 hED 2 rfl).1
        have c6 := (ref6 hED 3 rfl).1
        clear hE
        refine wp_region_held_drew (S := (fun w' => (w'.cell? ⟨bw, 0, none⟩ = some (.slice ao2 s.on.length c2) ∧ w'.cell? ⟨bw, 1, none⟩ = some (.slice aw2 s.wait.length d2) ∧ w'.cell? ⟨bw, 2, none⟩ = some (.bool s.dead) ∧ w'.cell? ⟨bw, 3, none⟩ = some (.int .i64 s.left) ∧ w'.cell? ⟨bw, 4, none⟩ = some (.string s.keep) ∧ w'.cell? ⟨bw, 5, none⟩ = some (.int .u64 s.acts)) ∧ (w'.cell? ⟨bz, 0, none⟩ = some (.slice bo sc.on.length e2) ∧ w'.cell? ⟨bz, 1, none⟩ = some (.slice bv sc.wait.length f2) ∧ w'.cell? ⟨bz, 2, none⟩ = some (.bool sc.dead) ∧ w'.cell? ⟨bz, 3, none⟩ = some (.int .i64 sc.left) ∧ w'.cell? ⟨bz, 4, none⟩ = some (.string sc.keep) ∧ w'.cell? ⟨bz, 5, none⟩ = some (.int .u64 sc.acts)))) (by kernel_rfl) ⟨b6, c6⟩ (fun hS => ?_)
        refine wpAnyH_take (i := 0) (oi := { dst := some 84, op := Go.Op.move (Go.Operand.tmp 5), type := 54, pos := "law.go:129", after := #[], guard := none }) (v := ?_) rfl (by kernel_rfl) (by kernel_rfl) (by kernel_rfl) (fun _ _ _ h => h) (Or.inl ⟨by rfl, ?_⟩) hS ?_
        rotate_left
        · (intro w hSw; (try dsimp only at hSw); go_simp; (try with_reducible rfl))
        try simp only [Act.put, List.setIfInBounds_toArray, List.set_cons_zero, List.set_cons_succ]
        refine wpAnyH_take (i := 1) (oi := { dst := some 85, op := Go.Op.load 71 (Go.Operand.tmp 7), type := 71, pos := "law.go:129", after := #[], guard := none }) (v := ?_) rfl (by kernel_rfl) (by kernel_rfl) (by kernel_rfl) (fun _ _ _ h => h) (Or.inl ⟨by rfl, ?_⟩) hS ?_
        rotate_left
        · (intro w hSw; (try dsimp only at hSw); go_simp; (try with_reducible rfl))
        try simp only [Act.put, List.setIfInBounds_toArray, List.set_cons_zero, List.set_cons_succ]
        refine wpAnyH_ready (rs := [2]) (by kernel_rfl) (by simp) ?_
        refine (AllReadyH.cons (o := { dst := some 86, op := Go.Op.call { callee := Go.Callee.value (Go.Operand.func 46), args := #[Go.Operand.tmp 84, Go.Operand.tmp 85], argTypes := #[54, 71] }, type := 4, pos := "law.go:129", after := #[{ on := 0, ground := Go.Ground.data }, { on := 1, ground := Go.Ground.data }], guard := none }) rfl (fun K hK => ?_) AllReadyH.nil)
        (go_simp; (go_at_call 46; have H := same_any (F := [disk q sc, pt bw (.cells #[.slice ao2 s.on.length c2, .slice aw2 s.wait.length d2, .bool s.dead, .int .i64 s.left, .string s.keep, .int .u64 s.acts] 71), pt bz (.cells #[.slice bo sc.on.length e2, .slice bv sc.wait.length f2, .bool sc.dead, .int .i64 sc.left, .string sc.keep, .int .u64 sc.acts] 71)]) (R := m ++ l) hg Hrs.out hED; refine H.mono ?_; clear H; rintro e w7 ⟨v, rfl, rfl, hE2⟩))
        refine hK.out _ _ ⟨(ref6 hE2 2 rfl).1, (ref6 hE2 3 rfl).1⟩ (fun hS => ?_)
        clear hK K
        try simp only [Act.put, List.setIfInBounds_toArray, List.set_cons_zero, List.set_cons_succ]
        refine wpAnyH_take (i := 3) (oi := { dst := some 87, op := Go.Op.unOp Go.UnOp.not 4 (Go.Operand.tmp 86), type := 4, pos := "law.go:129", after := #[{ on := 2, ground := Go.Ground.data }], guard := none }) (v := ?_) rfl (by kernel_rfl) (by kernel_rfl) (by kernel_rfl) (fun _ _ _ h => h) (Or.inl ⟨by rfl, ?_⟩) hS ?_
        rotate_left
        · (intro w hSw; (try dsimp only at hSw); go_simp; (try with_reducible rfl))
        try simp only [Act.put, List.setIfInBounds_toArray, List.set_cons_zero, List.set_cons_succ]
        refine wpAnyH_take (i := 4) (oi := { dst := some 88, op := Go.Op.move (Go.Operand.tmp 87), type := 4, pos := "law.go:129", after := #[{ on := 3, ground := Go.Ground.data }, { on := 2, ground := Go.Ground.chain }], guard := none }) (v := ?_) rfl (by kernel_rfl) (by kernel_rfl) (by kernel_rfl) (fun _ _ _ h => h) (Or.inl ⟨by rfl, ?_⟩) hS ?_
        rotate_left
        · (intro w hSw; (try dsimp only at hSw); go_simp; (try with_reducible rfl))
        try simp only [Act.put, List.setIfInBounds_toArray, List.set_cons_zero, List.set_cons_succ]
        refine wpAnyH_take (i := 5) (oi := { dst := some 89, op := Go.Op.move (Go.Operand.tmp 8), type := 54, pos := "law.go:129", after := #[{ on := 4, ground := Go.Ground.guard }], guard := some (4, false) }) (v := ?_) rfl (by kernel_rfl) (by kernel_rfl) (by kernel_rfl) (fun _ _ _ h => h) (Or.inl ⟨by rfl, ?_⟩) hS ?_
        rotate_left
        · (intro w hSw; (try dsimp only at hSw); go_simp; (try with_reducible rfl))
        try simp only [Act.put, List.setIfInBounds_toArray, List.set_cons_zero, List.set_cons_succ]
        refine wpAnyH_take (i := 6) (oi := { dst := some 90, op := Go.Op.binOp Go.BinOp.eql 54 (Go.Operand.tmp 89) (Go.Operand.const (Go.Value.pointer none)) 54, type := 4, pos := "law.go:129", after := #[{ on := 5, ground := Go.Ground.data }, { on := 4, ground := Go.Ground.guard }], guard := some (4, false) }) (v := ?_) rfl (by kernel_rfl) (by kernel_rfl) (by kernel_rfl) (fun _ _ _ h => h) (Or.inl ⟨by rfl, ?_⟩) hS ?_
        rotate_left
        · (intro w hSw; (try dsimp only at hSw); go_simp; (try with_reducible rfl))
        try simp only [Act.put, List.setIfInBounds_toArray, List.set_cons_zero, List.set_cons_succ]
        refine wpAnyH_take (i := 7) (oi := { dst := some 91, op := Go.Op.pick (Go.Operand.tmp 88) (Go.Operand.const (Go.Value.bool true)) (Go.Operand.tmp 90), type := 4, pos := "law.go:129", after := #[{ on := 4, ground := Go.Ground.data }, { on := 6, ground := Go.Ground.data }], guard := none }) (v := ?_) rfl (by kernel_rfl) (by kernel_rfl) (by kernel_rfl) (fun _ _ _ h => h) (Or.inl ⟨by rfl, ?_⟩) hS ?_
        rotate_left
        · (intro w hSw; (try dsimp only at hSw); go_simp; (try with_reducible rfl))
        try simp only [Act.put, List.setIfInBounds_toArray, List.set_cons_zero, List.set_cons_succ]
        refine wpAnyH_take (i := 8) (oi := { dst := some 92, op := Go.Op.move (Go.Operand.tmp 91), type := 4, pos := "law.go:129", after := #[{ on := 7, ground := Go.Ground.data }, { on := 4, ground := Go.Ground.chain }], guard := none }) (v := ?_) rfl (by kernel_rfl) (by kernel_rfl) (by kernel_rfl) (fun _ _ _ h => h) (Or.inl ⟨by rfl, ?_⟩) hS ?_
        rotate_left
        · (intro w hSw; (try dsimp only at hSw); go_simp; (try with_reducible rfl))
        try simp only [Act.put, List.setIfInBounds_toArray, List.set_cons_zero, List.set_cons_succ]
        refine wpAnyH_take (i := 9) (oi := { dst := some 93, op := Go.Op.move (Go.Operand.tmp 8), type := 54, pos := "law.go:129", after := #[{ on := 8, ground := Go.Ground.guard }], guard := some (8, false) }) (v := ?_) rfl (by kernel_rfl) (by kernel_rfl) (by kernel_rfl) (fun _ _ _ h => h) (Or.inl ⟨by rfl, ?_⟩) hS ?_
        rotate_left
        · (intro w hSw; (try dsimp only at hSw); go_simp; (try with_reducible rfl))
        try simp only [Act.put, List.setIfInBounds_toArray, List.set_cons_zero, List.set_cons_succ]
        refine wpAnyH_take (i := 10) (oi := { dst := some 94, op := Go.Op.load 71 (Go.Operand.tmp 9), type := 71, pos := "law.go:129", after := #[{ on := 8, ground := Go.Ground.guard }], guard := some (8, false) }) (v := ?_) rfl (by kernel_rfl) (by kernel_rfl) (by kernel_rfl) (fun _ _ _ h => h) (Or.inl ⟨by rfl, ?_⟩) hS ?_
        rotate_left
        · (intro w hSw; (try dsimp only at hSw); go_simp; (try with_reducible rfl))
        try simp only [Act.put, List.setIfInBounds_toArray, List.set_cons_zero, List.set_cons_succ]
        refine wpAnyH_ready (rs := [11]) (by kernel_rfl) (by simp) ?_
        refine (AllReadyH.cons (o := { dst := some 95, op := Go.Op.call { callee := Go.Callee.value (Go.Operand.func 46), args := #[Go.Operand.tmp 93, Go.Operand.tmp 94], argTypes := #[54, 71] }, type := 4, pos := "law.go:129", after := #[{ on := 9, ground := Go.Ground.data }, { on := 10, ground := Go.Ground.data }, { on := 8, ground := Go.Ground.chain }, { on := 8, ground := Go.Ground.guard }], guard := some (8, false) }) rfl (fun K hK => ?_) AllReadyH.nil)
        (go_simp; simp only [List.cons_append, List.nil_append] at hE2; (go_at_call 46; have H := same_any (F := [disk p s, pt bw (.cells #[.slice ao2 s.on.length c2, .slice aw2 s.wait.length d2, .bool s.dead, .int .i64 s.left, .string s.keep, .int .u64 s.acts] 71), pt bz (.cells #[.slice bo sc.on.length e2, .slice bv sc.wait.length f2, .bool sc.dead, .int .i64 sc.left, .string sc.keep, .int .u64 sc.acts] 71)]) (R := m ++ l) hgc Hrc.out (hE2.front 1 rfl); refine H.mono ?_; clear H; rintro e w8 ⟨v, rfl, rfl, hE3⟩); simp only [List.cons_append, List.nil_append] at hE3)
        refine hK.out _ _ ⟨(ref6 hE3 2 rfl).1, (ref6 hE3 3 rfl).1⟩ (fun hS => ?_)
        clear hK K
        try simp only [Act.put, List.setIfInBounds_toArray, List.set_cons_zero, List.set_cons_succ]
        refine wpAnyH_take (i := 12) (oi := { dst := some 96, op := Go.Op.unOp Go.UnOp.not 4 (Go.Operand.tmp 95), type := 4, pos := "law.go:129", after := #[{ on := 11, ground := Go.Ground.data }, { on := 8, ground := Go.Ground.guard }], guard := some (8, false) }) (v := ?_) rfl (by kernel_rfl) (by kernel_rfl) (by kernel_rfl) (fun _ _ _ h => h) (Or.inl ⟨by rfl, ?_⟩) hS ?_
        rotate_left
        · (intro w hSw; (try dsimp only at hSw); go_simp; (try with_reducible rfl))
        try simp only [Act.put, List.setIfInBounds_toArray, List.set_cons_zero, List.set_cons_succ]
        refine wpAnyH_take (i := 13) (oi := { dst := some 97, op := Go.Op.pick (Go.Operand.tmp 92) (Go.Operand.const (Go.Value.bool true)) (Go.Operand.tmp 96), type := 4, pos := "law.go:129", after := #[{ on := 8, ground := Go.Ground.data }, { on := 12, ground := Go.Ground.data }], guard := none }) (v := ?_) rfl (by kernel_rfl) (by kernel_rfl) (by kernel_rfl) (fun _ _ _ h => h) (Or.inl ⟨by rfl, ?_⟩) hS ?_
        rotate_left
        · (intro w hSw; (try dsimp only at hSw); go_simp; (try with_reducible rfl))
        try simp only [Act.put, List.setIfInBounds_toArray, List.set_cons_zero, List.set_cons_succ]
        refine wpAnyH_take (i := 14) (oi := { dst := some 98, op := Go.Op.move (Go.Operand.tmp 97), type := 4, pos := "law.go:129", after := #[{ on := 13, ground := Go.Ground.data }, { on := 11, ground := Go.Ground.chain }], guard := none }) (v := ?_) rfl (by kernel_rfl) (by kernel_rfl) (by kernel_rfl) (fun _ _ _ h => h) (Or.inl ⟨by rfl, ?_⟩) hS ?_
        rotate_left
        · (intro w hSw; (try dsimp only at hSw); go_simp; (try with_reducible rfl))
        try simp only [Act.put, List.setIfInBounds_toArray, List.set_cons_zero, List.set_cons_succ]
        refine wpAnyH_take (i := 15) (oi := { dst := some 99, op := Go.Op.move (Go.Operand.tmp 8), type := 54, pos := "law.go:129", after := #[{ on := 14, ground := Go.Ground.guard }], guard := some (14, false) }) (v := ?_) rfl (by kernel_rfl) (by kernel_rfl) (by kernel_rfl) (fun _ _ _ h => h) (Or.inl ⟨by rfl, ?_⟩) hS ?_
        rotate_left
        · (intro w hSw; (try dsimp only at hSw); go_simp; (try with_reducible rfl))
        try simp only [Act.put, List.setIfInBounds_toArray, List.set_cons_zero, List.set_cons_succ]
        refine wpAnyH_take (i := 17) (oi := { dst := some 101, op := Go.Op.fieldAddr 71 (Go.Operand.tmp 9) 1, type := 0, pos := "law.go:129", after := #[{ on := 14, ground := Go.Ground.guard }], guard := some (14, false) }) (v := ?_) rfl (by kernel_rfl) (by kernel_rfl) (by kernel_rfl) (fun _ _ _ h => h) (Or.inl ⟨by rfl, ?_⟩) hS ?_
        rotate_left
        · (intro w hSw; (try dsimp only at hSw); go_simp; (try with_reducible rfl))
        try simp only [Act.put, List.setIfInBounds_toArray, List.set_cons_zero, List.set_cons_succ]
        refine wpAnyH_take (i := 18) (oi := { dst := some 102, op := Go.Op.load 69 (Go.Operand.tmp 101), type := 69, pos := "law.go:129", after := #[{ on := 17, ground := Go.Ground.data }, { on := 14, ground := Go.Ground.guard }], guard := some (14, false) }) (v := ?_) rfl (by kernel_rfl) (by kernel_rfl) (by kernel_rfl) (fun _ _ _ h => h) (Or.inl ⟨by rfl, ?_⟩) hS ?_
        rotate_left
        · (intro w hSw; (try dsimp only at hSw); go_simp; (try with_reducible rfl))
        try simp only [Act.put, List.setIfInBounds_toArray, List.set_cons_zero, List.set_cons_succ]
        refine wpAnyH_take (i := 19) (oi := { dst := some 103, op := Go.Op.call { callee := Go.Callee.builtin Go.Builtin.len, args := #[Go.Operand.tmp 102], argTypes := #[69] }, type := 3, pos := "law.go:129", after := #[{ on := 18, ground := Go.Ground.data }, { on := 14, ground := Go.Ground.guard }], guard := some (14, false) }) (v := ?_) rfl (by kernel_rfl) (by kernel_rfl) (by kernel_rfl) (fun _ _ _ h => h) (Or.inl ⟨by rfl, ?_⟩) hS ?_
        rotate_left
        · (intro w hSw; (try dsimp only at hSw); go_simp; (try with_reducible rfl))
        try simp only [Act.put, List.setIfInBounds_toArray, List.set_cons_zero, List.set_cons_succ]
        refine wpAnyH_ready (rs := [16]) (by kernel_rfl) (by simp) ?_
        refine (AllReadyH.cons (o := { dst := some 100, op := Go.Op.call { callee := Go.Callee.value (Go.Operand.func 47), args := #[Go.Operand.tmp 99], argTypes := #[54] }, type := 3, pos := "law.go:129", after := #[{ on := 15, ground := Go.Ground.data }, { on := 14, ground := Go.Ground.chain }, { on := 14, ground := Go.Ground.guard }], guard := some (14, false) }) rfl (fun K hK => ?_) AllReadyH.nil)
        (go_simp; (go_at_call 47; have H := Waiting_any hE3; refine H.mono ?_; clear H; rintro e w9 ⟨rfl, rfl⟩))
        refine hK.out _ _ hS (fun hS => ?_)
        clear hK K
        try simp only [Act.put, List.setIfInBounds_toArray, List.set_cons_zero, List.set_cons_succ]
        refine wpAnyH_take (i := 20) (oi := { dst := some 104, op := Go.Op.binOp Go.BinOp.neq 3 (Go.Operand.tmp 100) (Go.Operand.tmp 103) 3, type := 4, pos := "law.go:129", after := #[{ on := 16, ground := Go.Ground.data }, { on := 19, ground := Go.Ground.data }, { on := 14, ground := Go.Ground.guard }], guard := some (14, false) }) (v := ?_) rfl (by kernel_rfl) (by kernel_rfl) (by kernel_rfl) (fun _ _ _ h => h) (Or.inl ⟨by rfl, ?_⟩) hS ?_
        rotate_left
        · (intro w hSw; (try dsimp only at hSw); go_simp; (try with_reducible rfl))
        try simp only [Act.put, List.setIfInBounds_toArray, List.set_cons_zero, List.set_cons_succ]
        refine wpAnyH_take (i := 21) (oi := { dst := some 105, op := Go.Op.pick (Go.Operand.tmp 98) (Go.Operand.const (Go.Value.bool true)) (Go.Operand.tmp 104), type := 4, pos := "law.go:129", after := #[{ on := 14, ground := Go.Ground.data }, { on := 20, ground := Go.Ground.data }], guard := none }) (v := ?_) rfl (by kernel_rfl) (by kernel_rfl) (by kernel_rfl) (fun _ _ _ h => h) (Or.inl ⟨by rfl, ?_⟩) hS ?_
        rotate_left
        · (intro w hSw; (try dsimp only at hSw); go_simp; (try with_reducible rfl))
        try simp only [Act.put, List.setIfInBounds_toArray, List.set_cons_zero, List.set_cons_succ]
        refine wpAnyH_take (i := 22) (oi := { dst := some 106, op := Go.Op.move (Go.Operand.tmp 105), type := 4, pos := "law.go:129", after := #[{ on := 21, ground := Go.Ground.data }, { on := 16, ground := Go.Ground.chain }], guard := none }) (v := ?_) rfl (by kernel_rfl) (by kernel_rfl) (by kernel_rfl) (fun _ _ _ h => h) (Or.inl ⟨by rfl, ?_⟩) hS ?_
        rotate_left
        · (intro w hSw; (try dsimp only at hSw); go_simp; (try with_reducible rfl))
        try simp only [Act.put, List.setIfInBounds_toArray, List.set_cons_zero, List.set_cons_succ]
        refine wpAnyH_take (i := 23) (oi := { dst := some 107, op := Go.Op.move (Go.Operand.tmp 8), type := 54, pos := "law.go:129", after := #[{ on := 22, ground := Go.Ground.guard }], guard := some (22, false) }) (v := ?_) rfl (by kernel_rfl) (by kernel_rfl) (by kernel_rfl) (fun _ _ _ h => h) (Or.inl ⟨by rfl, ?_⟩) hS ?_
        rotate_left
        · (intro w hSw; (try dsimp only at hSw); go_simp; (try with_reducible rfl))
        try simp only [Act.put, List.setIfInBounds_toArray, List.set_cons_zero, List.set_cons_succ]
        refine wpAnyH_take (i := 25) (oi := { dst := some 109, op := Go.Op.fieldAddr 71 (Go.Operand.tmp 9) 5, type := 0, pos := "law.go:129", after := #[{ on := 22, ground := Go.Ground.guard }], guard := some (22, false) }) (v := ?_) rfl (by kernel_rfl) (by kernel_rfl) (by kernel_rfl) (fun _ _ _ h => h) (Or.inl ⟨by rfl, ?_⟩) hS ?_
        rotate_left
        · (intro w hSw; (try dsimp only at hSw); go_simp; (try with_reducible rfl))
        try simp only [Act.put, List.setIfInBounds_toArray, List.set_cons_zero, List.set_cons_succ]
        refine wpAnyH_take (i := 26) (oi := { dst := some 110, op := Go.Op.load 25 (Go.Operand.tmp 109), type := 25, pos := "law.go:129", after := #[{ on := 25, ground := Go.Ground.data }, { on := 22, ground := Go.Ground.guard }], guard := some (22, false) }) (v := ?_) rfl (by kernel_rfl) (by kernel_rfl) (by kernel_rfl) (fun _ _ _ h => h) (Or.inl ⟨by rfl, ?_⟩) hS ?_
        rotate_left
        · (intro w hSw; (try dsimp only at hSw); go_simp; (try with_reducible rfl))
        try simp only [Act.put, List.setIfInBounds_toArray, List.set_cons_zero, List.set_cons_succ]
        refine wpAnyH_ready (rs := [24]) (by kernel_rfl) (by simp) ?_
        refine (AllReadyH.cons (o := { dst := some 108, op := Go.Op.call { callee := Go.Callee.value (Go.Operand.func 48), args := #[Go.Operand.tmp 107], argTypes := #[54] }, type := 25, pos := "law.go:129", after := #[{ on := 23, ground := Go.Ground.data }, { on := 22, ground := Go.Ground.chain }, { on := 22, ground := Go.Ground.guard }], guard := some (22, false) }) rfl (fun K hK => ?_) AllReadyH.nil)
        (go_simp; (go_at_call 48; have H := Acts_any hE3; refine H.mono ?_; clear H; rintro e w9 ⟨rfl, rfl⟩))
        refine hK.out _ _ hS (fun hS => ?_)
        clear hK K
        try simp only [Act.put, List.setIfInBounds_toArray, List.set_cons_zero, List.set_cons_succ]
        refine wpAnyH_take (i := 27) (oi := { dst := some 111, op := Go.Op.binOp Go.BinOp.neq 25 (Go.Operand.tmp 108) (Go.Operand.tmp 110) 25, type := 4, pos := "law.go:129", after := #[{ on := 24, ground := Go.Ground.data }, { on := 26, ground := Go.Ground.data }, { on := 22, ground := Go.Ground.guard }], guard := some (22, false) }) (v := ?_) rfl (by kernel_rfl) (by kernel_rfl) (by kernel_rfl) (fun _ _ _ h => h) (Or.inl ⟨by rfl, ?_⟩) hS ?_
        rotate_left
        · (intro w hSw; (try dsimp only at hSw); go_simp; (try with_reducible rfl))
        try simp only [Act.put, List.setIfInBounds_toArray, List.set_cons_zero, List.set_cons_succ]
        refine wpAnyH_take (i := 28) (oi := { dst := some 112, op := Go.Op.pick (Go.Operand.tmp 106) (Go.Operand.const (Go.Value.bool true)) (Go.Operand.tmp 111), type := 4, pos := "law.go:129", after := #[{ on := 22, ground := Go.Ground.data }, { on := 27, ground := Go.Ground.data }], guard := none }) (v := ?_) rfl (by kernel_rfl) (by kernel_rfl) (by kernel_rfl) (fun _ _ _ h => h) (Or.inl ⟨by rfl, ?_⟩) hS ?_
        rotate_left
        · (intro w hSw; (try dsimp only at hSw); go_simp; (try with_reducible rfl))
        try simp only [Act.put, List.setIfInBounds_toArray, List.set_cons_zero, List.set_cons_succ]
        refine wpAnyH_done (by kernel_rfl) ?_ _
        clear hS b6 c6 hE2 hED
        have hwc' : sc.wait.length ≤ 1000000 := by omega
        go_wp2_with (first
          | go_skip
          | (refine wpl_loadW hE3 3 rfl rfl rfl rfl Try.isAgg71 Try.sizeOf71 rfl ?_)
          | (go_at_call 49; have H := rFlush_any (F := [disk q sc, disk p s, pt bw (.cells #[.slice ao2 s.on.length c2, .slice aw2 s.wait.length d2, .bool s.dead, .int .i64 s.left, .string s.keep, .int .u64 s.acts] 71), pt bz (.cells #[.slice bo sc.on.length e2, .slice bv sc.wait.length f2, .bool sc.dead, .int .i64 sc.left, .string sc.keep, .int .u64 sc.acts] 71)]) (R := m ++ l) hgc hwc' Hrc.out hE3; refine H.mono ?_; clear H hE3; rintro e w6 ⟨v, rfl, m2, ys, rfl, hr, hE4⟩; obtain ⟨ao3, c3, aw3, d3, rfl, k1, k2⟩ := hr; clear k1 k2; unfold rcells; simp only [List.cons_append, List.nil_append] at hE4)
          | (refine wpl_allocN hE4 rfl rfl (n := 6) (by kernel_rfl) ?_; clear hE4; intro b13 cs2 w7 hq2 hE5)
          | (refine wpl_storeN hE5 0 rfl rfl rfl rfl rfl Try.sizeOf71 rfl (by simp [Value.oneCell']) hq2 ?_; clear hE5; intro w8 hE6; simp only [List.set_cons_succ, List.set_cons_zero] at hE6)
          | (go_at_call 35; have H := Flush_any hgc (hE6.front 1 rfl); refine H.mono ?_; clear H hE6; rintro e w9 ⟨v, rfl, rfl, hE7⟩)
          | (go_at_call 31; have H := wakes4_any hE7; refine H.mono ?_; clear H hE7; rintro e w9 ⟨v, rfl, rfl, hE8⟩))
        go_ret
        exact ⟨_, rfl, rfl, hE8.tail.tail.tail.tail.tail.drop.drop⟩
end Go.Proofs.Ytpchnmcofkffiaa
