/-
  The disk's other acts: a write, a read, a fuse, a crash, a start, and what lies on a sector.
-/
import Derived.Test.YtpchnmcofkffiaaDk3
namespace Go.Proofs.Ytpchnmcofkffiaa
open Go.RowKit Go.SL

theorem hasE_0 {s : DS} {k : Int} (h : 0 ≤ k ∧ k < s.on.length) : s.hasE k = 0 := by unfold DS.hasE; rw [if_pos h]
theorem hasE_2 {s : DS} {k : Int} (h : ¬(0 ≤ k ∧ k < s.on.length)) : s.hasE k = 2 := by unfold DS.hasE; rw [if_neg h]
theorem has_is {l : List HProp} {w : World} {p : Nat} {s : DS} {k e : Int} (he : s.hasE k = e) (hE : Ent (disk p s :: l) w) : Calls Try.prog 78 #[.pointer (some ⟨p, 0, none⟩), .int .i64 k] w (fun x w' => x = .returned (.int .i64 e) ∧ w = w') := he ▸ has_any k hE
theorem unless_is (b : Bool) (e e' : Int) (h : unlessE b e = e') (w : World) : Calls Try.prog 76 #[.bool b, .int .i64 e] w fun x w' => x = .returned (.int .i64 e') ∧ w = w' := h ▸ unless_e b e w
theorem unlessE_t (e : Int) : unlessE true e = 0 := by unfold unlessE; rfl
theorem unlessE_f (e : Int) : unlessE false e = e := by unfold unlessE; rfl
theorem first_2e {w : World} {b c : Nat} {x y : Int} (e : Int) (he : firstE [x, y] = e) {l : List HProp} (hE : Ent (pt b (.cells #[.int .i64 x, .int .i64 y] 34) :: l) w) :
    Calls Try.prog 74 #[.slice (some ⟨b, 0, none⟩) 2 c] w fun x w' => x = .returned (.int .i64 e) ∧ w = w' := he ▸ first_2 hE
theorem first_3e {w : World} {b c : Nat} {x y z : Int} (e : Int) (he : firstE [x, y, z] = e) {l : List HProp} (hE : Ent (pt b (.cells #[.int .i64 x, .int .i64 y, .int .i64 z] 34) :: l) w) :
    Calls Try.prog 74 #[.slice (some ⟨b, 0, none⟩) 3 c] w fun x w' => x = .returned (.int .i64 e) ∧ w = w' := he ▸ first_3 hE

theorem Start_any {l : List HProp} {w : World} {p : Nat} {s : DS} (hE : Ent (disk p s :: l) w) :
    Calls Try.prog 38 #[.pointer (some ⟨p, 0, none⟩)] w (Ret fun v w' => v = .int .i64 0 ∧ Ent (disk p s.startS :: l) w') := by
  obtain ⟨ao, c, aw, d, hE⟩ := disk_open hE
  go_enter Try.func38, Try.ntmps38
  go_wp2_with (first
    | go_skip
    | (go_at_call 75; refine (there_any _ _).mono ?_; rintro e w2 ⟨rfl, rfl⟩)
    | (first | (refine wpl_load1 hE 0 rfl rfl rfl rfl (by simp [go_sem]) rfl ?_) | (refine wpl_load1 hE 1 rfl rfl rfl rfl (by simp [go_sem]) rfl ?_) | (refine wpl_load1 hE 2 rfl rfl rfl rfl (by simp [go_sem]) rfl ?_) | (refine wpl_load1 hE 3 rfl rfl rfl rfl (by simp [go_sem]) rfl ?_) | (refine wpl_load1 hE 4 rfl rfl rfl rfl (by simp [go_sem]) rfl ?_) | (refine wpl_load1 hE 5 rfl rfl rfl rfl (by simp [go_sem]) rfl ?_)) | (first | (refine wpl_store hE 0 rfl rfl rfl rfl rfl (by simp [go_sem]; rfl) (by rfl) (by simp [Value.cells, Value.oneCell', Act.eval]) (by simp) ?_; clear hE; intro w hE; simp only [Act.eval, getD_lit, List.getD_cons_succ, List.getD_cons_zero, Value.cells, List.set_cons_zero, List.set_cons_succ, List.take_succ_cons, List.take_zero, List.nil_append, List.cons_append, List.drop_succ_cons, List.drop_zero, List.length_cons, List.length_nil, Nat.reduceAdd, Nat.zero_add] at hE) | (refine wpl_store hE 1 rfl rfl rfl rfl rfl (by simp [go_sem]; rfl) (by rfl) (by simp [Value.cells, Value.oneCell', Act.eval]) (by simp) ?_; clear hE; intro w hE; simp only [Act.eval, getD_lit, List.getD_cons_succ, List.getD_cons_zero, Value.cells, List.set_cons_zero, List.set_cons_succ, List.take_succ_cons, List.take_zero, List.nil_append, List.cons_append, List.drop_succ_cons, List.drop_zero, List.length_cons, List.length_nil, Nat.reduceAdd, Nat.zero_add] at hE) | (refine wpl_store hE 2 rfl rfl rfl rfl rfl (by simp [go_sem]; rfl) (by rfl) (by simp [Value.cells, Value.oneCell', Act.eval]) (by simp) ?_; clear hE; intro w hE; simp only [Act.eval, getD_lit, List.getD_cons_succ, List.getD_cons_zero, Value.cells, List.set_cons_zero, List.set_cons_succ, List.take_succ_cons, List.take_zero, List.nil_append, List.cons_append, List.drop_succ_cons, List.drop_zero, List.length_cons, List.length_nil, Nat.reduceAdd, Nat.zero_add] at hE) | (refine wpl_store hE 3 rfl rfl rfl rfl rfl (by simp [go_sem]; rfl) (by rfl) (by simp [Value.cells, Value.oneCell', Act.eval]) (by simp) ?_; clear hE; intro w hE; simp only [Act.eval, getD_lit, List.getD_cons_succ, List.getD_cons_zero, Value.cells, List.set_cons_zero, List.set_cons_succ, List.take_succ_cons, List.take_zero, List.nil_append, List.cons_append, List.drop_succ_cons, List.drop_zero, List.length_cons, List.length_nil, Nat.reduceAdd, Nat.zero_add] at hE) | (refine wpl_store hE 4 rfl rfl rfl rfl rfl (by simp [go_sem]; rfl) (by rfl) (by simp [Value.cells, Value.oneCell', Act.eval]) (by simp) ?_; clear hE; intro w hE; simp only [Act.eval, getD_lit, List.getD_cons_succ, List.getD_cons_zero, Value.cells, List.set_cons_zero, List.set_cons_succ, List.take_succ_cons, List.take_zero, List.nil_append, List.cons_append, List.drop_succ_cons, List.drop_zero, List.length_cons, List.length_nil, Nat.reduceAdd, Nat.zero_add] at hE) | (refine wpl_store hE 5 rfl rfl rfl rfl rfl (by simp [go_sem]; rfl) (by rfl) (by simp [Value.cells, Value.oneCell', Act.eval]) (by simp) ?_; clear hE; intro w hE; simp only [Act.eval, getD_lit, List.getD_cons_succ, List.getD_cons_zero, Value.cells, List.set_cons_zero, List.set_cons_succ, List.take_succ_cons, List.take_zero, List.nil_append, List.cons_append, List.drop_succ_cons, List.drop_zero, List.length_cons, List.length_nil, Nat.reduceAdd, Nat.zero_add] at hE)))
  go_ret
  exact ⟨_, rfl, rfl, disk_close (s := s.startS) hE⟩
theorem Start_nil {l : List HProp} {w : World} (hE : Ent l w) :
    Calls Try.prog 38 #[.pointer none] w (Ret fun v w' => v = .int .i64 1 ∧ Ent l w') := by
  go_enter Try.func38, Try.ntmps38
  go_wp2_with (first
    | go_skip
    | (go_at_call 75; refine (there_nil _).mono ?_; rintro e w2 ⟨rfl, rfl⟩))
  go_ret
  exact ⟨_, rfl, rfl, hE⟩

theorem Crash_any {l : List HProp} {w : World} {p : Nat} {s : DS} (keep : ByteArray) (hg : s.good) (hE : Ent (disk p s :: l) w) :
    Calls Try.prog 37 #[.pointer (some ⟨p, 0, none⟩), .string keep] w (Ret fun v w' => v = .int .i64 s.powerE ∧ Ent (disk p (s.crashS keep) :: l) w') := by
  cases hd : s.dead with
  | true =>
    rw [powerE_4 hd, show s.crashS keep = s by unfold DS.crashS; simp [hd]]
    have Hp := SL.hid (powerE_4 hd)
    clear hd
    go_enter Try.func37, Try.ntmps37
    go_wp2_with (first
      | go_skip
      | (go_at_call 72; have H := power_is Hp.out hE; refine H.mono ?_; clear H; rintro e w2 ⟨v, rfl, rfl, hE⟩))
    go_ret
    exact ⟨_, rfl, rfl, hE⟩
  | false =>
    rw [powerE_0 hd, show s.crashS keep = s.goes keep by unfold DS.crashS; simp [hd]]
    have Hp := SL.hid (powerE_0 hd)
    clear hd
    go_enter Try.func37, Try.ntmps37
    go_wp2_with (first
      | go_skip
      | (go_at_call 72; have H := power_is Hp.out hE; refine H.mono ?_; clear H; rintro e w2 ⟨v, rfl, rfl, hE⟩)
      | (go_at_call 77; have H := goes_any keep hg hE; refine H.mono ?_; clear H; rintro e w2 ⟨rfl, hE⟩))
    go_ret
    exact ⟨_, rfl, rfl, hE⟩
theorem Crash_nil {l : List HProp} {w : World} (keep : ByteArray) (hE : Ent l w) :
    Calls Try.prog 37 #[.pointer none, .string keep] w (Ret fun v w' => v = .int .i64 1 ∧ Ent l w') := by
  go_enter Try.func37, Try.ntmps37
  go_wp2_with (first
    | go_skip
    | (go_at_call 72; have H := power_nil _ _ hE; refine H.mono ?_; clear H; rintro e w2 ⟨v, rfl, rfl, hE⟩))
  go_ret
  exact ⟨_, rfl, rfl, hE⟩

theorem fuse_0 : firstE [0, unlessE true 2] = 0 := by rw [unlessE_t]; simp [firstE]
theorem fuse_2 : firstE [0, unlessE false 2] = 2 := by rw [unlessE_f]; simp [firstE]
theorem fuse_1 (b : Bool) : firstE [1, unlessE b 2] = 1 := by simp [firstE]

theorem Fuse_any {l : List HProp} {w : World} {p : Nat} {s : DS} (n : Int) (keep : ByteArray) (hE : Ent (disk p s :: l) w) :
    Calls Try.prog 36 #[.pointer (some ⟨p, 0, none⟩), .int .i64 n, .string keep] w (Ret fun v w' => v = .int .i64 (fuseE n) ∧ Ent (disk p (s.fuseS n keep) :: l) w') := by
  by_cases hn : 0 ≤ n
  · rw [show fuseE n = 0 by unfold fuseE; rw [if_pos hn], show s.fuseS n keep = { s with left := n, keep := keep } by unfold DS.fuseS; rw [if_pos hn]]
    obtain ⟨ao, c, aw, d, hE⟩ := disk_open hE
    have hd : decide (0 ≤ n) = true := by simpa using hn
    go_enter Try.func36, Try.ntmps36
    go_wp2_with (first
      | go_skip
      | (go_at_call 75; refine (there_any _ _).mono ?_; rintro e w2 ⟨rfl, rfl⟩)
      | (go_at_call 76; refine (unless_e _ _ _).mono ?_; rintro e w2 ⟨rfl, rfl⟩)
      | (go_at_call 74; have H := first_2e (c := 2) (x := 0) (y := unlessE true 2) 0 fuse_0 (hE.alloc _); refine H.mono ?_; clear H; rintro e w2 ⟨rfl, rfl⟩; replace hE := (hE.alloc (.cells #[.int .i64 0, .int .i64 (unlessE true 2)] 34)).tail)
      | (first | (refine wpl_store hE 0 rfl rfl rfl rfl rfl (by simp [go_sem]; rfl) (by rfl) (by simp [Value.cells, Value.oneCell', Act.eval]) (by simp) ?_; clear hE; intro w hE; simp only [Act.eval, getD_lit, List.getD_cons_succ, List.getD_cons_zero, Value.cells, List.set_cons_zero, List.set_cons_succ, List.take_succ_cons, List.take_zero, List.nil_append, List.cons_append, List.drop_succ_cons, List.drop_zero, List.length_cons, List.length_nil, Nat.reduceAdd, Nat.zero_add] at hE) | (refine wpl_store hE 1 rfl rfl rfl rfl rfl (by simp [go_sem]; rfl) (by rfl) (by simp [Value.cells, Value.oneCell', Act.eval]) (by simp) ?_; clear hE; intro w hE; simp only [Act.eval, getD_lit, List.getD_cons_succ, List.getD_cons_zero, Value.cells, List.set_cons_zero, List.set_cons_succ, List.take_succ_cons, List.take_zero, List.nil_append, List.cons_append, List.drop_succ_cons, List.drop_zero, List.length_cons, List.length_nil, Nat.reduceAdd, Nat.zero_add] at hE) | (refine wpl_store hE 2 rfl rfl rfl rfl rfl (by simp [go_sem]; rfl) (by rfl) (by simp [Value.cells, Value.oneCell', Act.eval]) (by simp) ?_; clear hE; intro w hE; simp only [Act.eval, getD_lit, List.getD_cons_succ, List.getD_cons_zero, Value.cells, List.set_cons_zero, List.set_cons_succ, List.take_succ_cons, List.take_zero, List.nil_append, List.cons_append, List.drop_succ_cons, List.drop_zero, List.length_cons, List.length_nil, Nat.reduceAdd, Nat.zero_add] at hE) | (refine wpl_store hE 3 rfl rfl rfl rfl rfl (by simp [go_sem]; rfl) (by rfl) (by simp [Value.cells, Value.oneCell', Act.eval]) (by simp) ?_; clear hE; intro w hE; simp only [Act.eval, getD_lit, List.getD_cons_succ, List.getD_cons_zero, Value.cells, List.set_cons_zero, List.set_cons_succ, List.take_succ_cons, List.take_zero, List.nil_append, List.cons_append, List.drop_succ_cons, List.drop_zero, List.length_cons, List.length_nil, Nat.reduceAdd, Nat.zero_add] at hE) | (refine wpl_store hE 4 rfl rfl rfl rfl rfl (by simp [go_sem]; rfl) (by rfl) (by simp [Value.cells, Value.oneCell', Act.eval]) (by simp) ?_; clear hE; intro w hE; simp only [Act.eval, getD_lit, List.getD_cons_succ, List.getD_cons_zero, Value.cells, List.set_cons_zero, List.set_cons_succ, List.take_succ_cons, List.take_zero, List.nil_append, List.cons_append, List.drop_succ_cons, List.drop_zero, List.length_cons, List.length_nil, Nat.reduceAdd, Nat.zero_add] at hE) | (refine wpl_store hE 5 rfl rfl rfl rfl rfl (by simp [go_sem]; rfl) (by rfl) (by simp [Value.cells, Value.oneCell', Act.eval]) (by simp) ?_; clear hE; intro w hE; simp only [Act.eval, getD_lit, List.getD_cons_succ, List.getD_cons_zero, Value.cells, List.set_cons_zero, List.set_cons_succ, List.take_succ_cons, List.take_zero, List.nil_append, List.cons_append, List.drop_succ_cons, List.drop_zero, List.length_cons, List.length_nil, Nat.reduceAdd, Nat.zero_add] at hE)))
    go_ret
    exact ⟨_, rfl, rfl, disk_close (s := { s with left := n, keep := keep }) hE⟩
  · rw [show fuseE n = 2 by unfold fuseE; rw [if_neg hn], show s.fuseS n keep = s by unfold DS.fuseS; rw [if_neg hn]]
    have hd : decide (0 ≤ n) = false := by simpa using hn
    clear hn
    go_enter Try.func36, Try.ntmps36
    go_wp2_with (first
      | go_skip
      | (go_at_call 75; refine (there_any _ _).mono ?_; rintro e w2 ⟨rfl, rfl⟩)
      | (go_at_call 76; refine (unless_e _ _ _).mono ?_; rintro e w2 ⟨rfl, rfl⟩)
      | (go_at_call 74; have H := first_2e (c := 2) (x := 0) (y := unlessE false 2) 2 fuse_2 (hE.alloc _); refine H.mono ?_; clear H; rintro e w2 ⟨rfl, rfl⟩; replace hE := (hE.alloc (.cells #[.int .i64 0, .int .i64 (unlessE false 2)] 34)).tail))
    go_ret
    exact ⟨_, rfl, rfl, hE⟩
theorem Fuse_nil {l : List HProp} {w : World} (n : Int) (keep : ByteArray) (hE : Ent l w) :
    Calls Try.prog 36 #[.pointer none, .int .i64 n, .string keep] w (Ret fun v w' => v = .int .i64 1 ∧ Ent l w') := by
  go_enter Try.func36, Try.ntmps36
  go_wp2_with (first
    | go_skip
    | (go_at_call 75; refine (there_nil _).mono ?_; rintro e w2 ⟨rfl, rfl⟩)
    | (go_at_call 76; refine (unless_e _ _ _).mono ?_; rintro e w2 ⟨rfl, rfl⟩)
    | (go_at_call 74; have H := first_2e (c := 2) (x := 1) (y := unlessE (decide (0 ≤ n)) 2) 1 (fuse_1 _) (hE.alloc _); refine H.mono ?_; clear H; rintro e w2 ⟨rfl, rfl⟩; replace hE := (hE.alloc (.cells #[.int .i64 1, .int .i64 (unlessE (decide (0 ≤ n)) 2)] 34)).tail))
  go_ret
  exact ⟨_, rfl, rfl, hE⟩
end Go.Proofs.Ytpchnmcofkffiaa
