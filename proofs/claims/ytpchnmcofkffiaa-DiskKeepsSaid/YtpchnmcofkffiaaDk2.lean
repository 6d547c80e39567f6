/-
  The disk's own memory as a separation assertion; what its small functions answer.
-/
import Derived.Test.YtpchnmcofkffiaaDk1
import Derived.Test.YtpchnmcofkffiaaFr
import Derived.Test.YtpchnmcofkffiaaSlf
namespace Go.Proofs.Ytpchnmcofkffiaa
open Go.RowKit Go.SL

def wcells (x : Wt) : List Value := bvals x.b ++ [.int .i64 (x.at_ : Nat)]
def disk (p : Nat) (s : DS) : HProp := ex fun x : (Option Addr × Nat) × (Option Addr × Nat) =>
  [pt p (.cells #[.int .i64 s.left, .string s.keep, .slice x.1.1 s.on.length x.1.2, .slice x.2.1 s.wait.length x.2.2, .bool s.dead, .int .u64 s.acts] 112),
   row 114 512 (.slice x.1.1 s.on.length x.1.2) s.on.length (s.on.flatMap bvals),
   row 116 513 (.slice x.2.1 s.wait.length x.2.2) s.wait.length (s.wait.flatMap wcells)]

theorem disk_open {l : List HProp} {w : World} {p : Nat} {s : DS} (hE : Ent (disk p s :: l) w) :
    ∃ ao c aw d, Ent (pt p (.cells #[.int .i64 s.left, .string s.keep, .slice ao s.on.length c, .slice aw s.wait.length d, .bool s.dead, .int .u64 s.acts] 112) ::
      row 114 512 (.slice ao s.on.length c) s.on.length (s.on.flatMap bvals) :: row 116 513 (.slice aw s.wait.length d) s.wait.length (s.wait.flatMap wcells) :: l) w :=
  let ⟨x, h⟩ := Ent.unpack hE; ⟨x.1.1, x.1.2, x.2.1, x.2.2, h⟩
theorem disk_close {l : List HProp} {w : World} {p : Nat} {s : DS} {ao aw : Option Addr} {c d : Nat}
    (hE : Ent (pt p (.cells #[.int .i64 s.left, .string s.keep, .slice ao s.on.length c, .slice aw s.wait.length d, .bool s.dead, .int .u64 s.acts] 112) ::
      row 114 512 (.slice ao s.on.length c) s.on.length (s.on.flatMap bvals) :: row 116 513 (.slice aw s.wait.length d) s.wait.length (s.wait.flatMap wcells) :: l) w) : Ent (disk p s :: l) w := Ent.pack ((ao, c), (aw, d)) hE

theorem unless_any (b : Bool) (e : Int) (w : World) : Calls Try.prog 76 #[.bool b, .int .i64 e] w fun x w' => x = .returned (.int .i64 (if b = true then 0 else e)) ∧ w = w' := by
  cases b
  all_goals
    go_enter Try.func76, Try.ntmps76
    go_wp2
    go_ret
    exact ⟨rfl, rfl⟩

theorem there_any (p : Nat) (w : World) : Calls Try.prog 75 #[.pointer (some ⟨p, 0, none⟩)] w fun x w' => x = .returned (.int .i64 0) ∧ w = w' := by
  go_enter Try.func75, Try.ntmps75
  go_wp2_with ((go_at_call 76; refine (unless_any _ _ _).mono ?_; rintro e w2 ⟨rfl, rfl⟩))
  go_ret
  exact ⟨rfl, rfl⟩

theorem there_nil (w : World) : Calls Try.prog 75 #[.pointer none] w fun x w' => x = .returned (.int .i64 1) ∧ w = w' := by
  go_enter Try.func75, Try.ntmps75
  go_wp2_with ((go_at_call 76; refine (unless_any _ _ _).mono ?_; rintro e w2 ⟨rfl, rfl⟩))
  go_ret
  exact ⟨rfl, rfl⟩

theorem Alive_any {l : List HProp} {w : World} {p : Nat} {s : DS} (hE : Ent (disk p s :: l) w) : Calls Try.prog 34 #[.pointer (some ⟨p, 0, none⟩)] w fun x w' => x = .returned (.bool (!s.dead)) ∧ w = w' := by
  obtain ⟨ao, c, aw, d, hE⟩ := disk_open hE
  go_enter Try.func34, Try.ntmps34
  go_wp2_with ((first | (refine wpl_load1 hE 0 rfl rfl rfl rfl (by simp [go_sem]) rfl ?_) | (refine wpl_load1 hE 1 rfl rfl rfl rfl (by simp [go_sem]) rfl ?_) | (refine wpl_load1 hE 2 rfl rfl rfl rfl (by simp [go_sem]) rfl ?_) | (refine wpl_load1 hE 3 rfl rfl rfl rfl (by simp [go_sem]) rfl ?_) | (refine wpl_load1 hE 4 rfl rfl rfl rfl (by simp [go_sem]) rfl ?_) | (refine wpl_load1 hE 5 rfl rfl rfl rfl (by simp [go_sem]) rfl ?_)))
  go_ret
  exact ⟨rfl, rfl⟩
theorem Alive_nil (w : World) : Calls Try.prog 34 #[.pointer none] w fun x w' => x = .returned (.bool false) ∧ w = w' := by
  go_enter Try.func34, Try.ntmps34
  go_wp2_with (go_skip)
  go_ret
  exact ⟨rfl, rfl⟩

theorem Len_any {l : List HProp} {w : World} {p : Nat} {s : DS} (hE : Ent (disk p s :: l) w) : Calls Try.prog 50 #[.pointer (some ⟨p, 0, none⟩)] w fun x w' => x = .returned (.int .i64 s.on.length) ∧ w = w' := by
  obtain ⟨ao, c, aw, d, hE⟩ := disk_open hE
  go_enter Try.func50, Try.ntmps50
  go_wp2_with ((first | (refine wpl_load1 hE 0 rfl rfl rfl rfl (by simp [go_sem]) rfl ?_) | (refine wpl_load1 hE 1 rfl rfl rfl rfl (by simp [go_sem]) rfl ?_) | (refine wpl_load1 hE 2 rfl rfl rfl rfl (by simp [go_sem]) rfl ?_) | (refine wpl_load1 hE 3 rfl rfl rfl rfl (by simp [go_sem]) rfl ?_) | (refine wpl_load1 hE 4 rfl rfl rfl rfl (by simp [go_sem]) rfl ?_) | (refine wpl_load1 hE 5 rfl rfl rfl rfl (by simp [go_sem]) rfl ?_)))
  go_ret
  exact ⟨rfl, rfl⟩
theorem Len_nil (w : World) : Calls Try.prog 50 #[.pointer none] w fun x w' => x = .returned (.int .i64 0) ∧ w = w' := by
  go_enter Try.func50, Try.ntmps50
  go_wp2_with (go_skip)
  go_ret
  exact ⟨rfl, rfl⟩
theorem Waiting_any {l : List HProp} {w : World} {p : Nat} {s : DS} (hE : Ent (disk p s :: l) w) : Calls Try.prog 47 #[.pointer (some ⟨p, 0, none⟩)] w fun x w' => x = .returned (.int .i64 s.wait.length) ∧ w = w' := by
  obtain ⟨ao, c, aw, d, hE⟩ := disk_open hE
  go_enter Try.func47, Try.ntmps47
  go_wp2_with ((first | (refine wpl_load1 hE 0 rfl rfl rfl rfl (by simp [go_sem]) rfl ?_) | (refine wpl_load1 hE 1 rfl rfl rfl rfl (by simp [go_sem]) rfl ?_) | (refine wpl_load1 hE 2 rfl rfl rfl rfl (by simp [go_sem]) rfl ?_) | (refine wpl_load1 hE 3 rfl rfl rfl rfl (by simp [go_sem]) rfl ?_) | (refine wpl_load1 hE 4 rfl rfl rfl rfl (by simp [go_sem]) rfl ?_) | (refine wpl_load1 hE 5 rfl rfl rfl rfl (by simp [go_sem]) rfl ?_)))
  go_ret
  exact ⟨rfl, rfl⟩
theorem Waiting_nil (w : World) : Calls Try.prog 47 #[.pointer none] w fun x w' => x = .returned (.int .i64 0) ∧ w = w' := by
  go_enter Try.func47, Try.ntmps47
  go_wp2_with (go_skip)
  go_ret
  exact ⟨rfl, rfl⟩
theorem Acts_any {l : List HProp} {w : World} {p : Nat} {s : DS} (hE : Ent (disk p s :: l) w) : Calls Try.prog 48 #[.pointer (some ⟨p, 0, none⟩)] w fun x w' => x = .returned (.int .u64 s.acts) ∧ w = w' := by
  obtain ⟨ao, c, aw, d, hE⟩ := disk_open hE
  go_enter Try.func48, Try.ntmps48
  go_wp2_with ((first | (refine wpl_load1 hE 0 rfl rfl rfl rfl (by simp [go_sem]) rfl ?_) | (refine wpl_load1 hE 1 rfl rfl rfl rfl (by simp [go_sem]) rfl ?_) | (refine wpl_load1 hE 2 rfl rfl rfl rfl (by simp [go_sem]) rfl ?_) | (refine wpl_load1 hE 3 rfl rfl rfl rfl (by simp [go_sem]) rfl ?_) | (refine wpl_load1 hE 4 rfl rfl rfl rfl (by simp [go_sem]) rfl ?_) | (refine wpl_load1 hE 5 rfl rfl rfl rfl (by simp [go_sem]) rfl ?_)))
  go_ret
  exact ⟨rfl, rfl⟩
theorem Acts_nil (w : World) : Calls Try.prog 48 #[.pointer none] w fun x w' => x = .returned (.int .u64 0) ∧ w = w' := by
  go_enter Try.func48, Try.ntmps48
  go_wp2_with (go_skip)
  go_ret
  exact ⟨rfl, rfl⟩

def firstE : List Int → Int
  | [] => 0
  | x :: l => if x = 0 then firstE l else x

theorem firstE_drop : ∀ (es : List Int) (k : Nat) (h : k < es.length), firstE (es.drop k) = if es[k] = 0 then firstE (es.drop (k + 1)) else es[k] := by
  intro es k h
  rw [List.drop_eq_getElem_cons h, firstE]

theorem first_any {w : World} {b n c : Nat} {es : List Int} (hr : reads (.slice (some ⟨b, 0, none⟩) n c) n (es.map fun e => Value.int .i64 e) w) (hn : n = es.length) (h9 : es.length < 9) :
    Calls Try.prog 74 #[.slice (some ⟨b, 0, none⟩) n c] w fun e w' => e = .returned (.int .i64 (firstE es)) ∧ w = w' := by
  have hc : ∀ k (h : k < es.length), w.cell? ⟨b, k, none⟩ = some (.int .i64 es[k]) := by
    intro k h
    obtain ⟨ao, c', e1, _, h2⟩ := hr
    cases e1
    have := h2 _ rfl k (.int .i64 es[k]) (by simp [h])
    rwa [Addr.add_lit, Nat.zero_add] at this
  clear hr
  have H0 := SL.hid (show firstE (es.drop 0) = firstE es by simp)
  go_enter Try.func74, Try.ntmps74
  go_wp2
  go_loop [7] (fun i => ∃ k : Nat, k ≤ es.length ∧ i = .int .i64 k ∧ firstE (es.drop k) = firstE es) (fun i => n - (intOf i).toNat)
  case atStart => exact ⟨0, Nat.zero_le _, rfl, H0.out⟩
  case round =>
    obtain ⟨k, hk, rfl, hf⟩ := hrel
    have Hn := SL.hid hn
    have Hf := SL.hid hf
    clear hf
    by_cases hlt : k < es.length
    · have hkn : k < n := by omega
      clear hn
      have ck := hc k hlt
      clear hc
      have Hd := SL.hid (firstE_drop es k hlt)
      generalize es[k] = x at *
      by_cases hx : x = 0
      · have Hx := SL.hid hx
        have hx' : (x != 0) = false := by simpa using hx
        clear hx
        go_wp2
        go_round
        case rel => exact ⟨k + 1, hlt, by simp, by rw [← Hf.out, Hd.out, if_pos Hx.out]⟩
        case measure => simp [intOf]; omega
      · have Hx := SL.hid hx
        have hx' : (x != 0) = true := by simpa using hx
        clear hx
        go_wp2
        go_ret
        rw [← Hf.out, Hd.out, if_neg Hx.out]
        exact ⟨rfl, rfl⟩
    · have hkn : k = n := by omega
      have Hk := SL.hid (show k = es.length by omega)
      clear hn hc
      subst hkn
      go_wp2
      go_ret
      rw [← Hf.out, Hk.out, List.drop_length]
      exact ⟨rfl, rfl⟩

theorem first_blk {w : World} {b n c : Nat} (es : List Int) {T : TypeId} {fz : Nat × Nat} {l : List HProp} (hE : Ent (pt b (.cells (es.map fun e => Value.int .i64 e).toArray T fz) :: l) w) (hn : n = es.length) (h9 : es.length < 9) :
    Calls Try.prog 74 #[.slice (some ⟨b, 0, none⟩) n c] w fun e w' => e = .returned (.int .i64 (firstE es)) ∧ w = w' :=
  first_any (reads_pt hE 0 rfl (off := 0) (fun j u hu => by simpa using hu)) hn h9

theorem first_2 {w : World} {b c : Nat} {x y : Int} {l : List HProp} (hE : Ent (pt b (.cells #[.int .i64 x, .int .i64 y] 34) :: l) w) :
    Calls Try.prog 74 #[.slice (some ⟨b, 0, none⟩) 2 c] w fun e w' => e = .returned (.int .i64 (firstE [x, y])) ∧ w = w' := first_blk [x, y] hE rfl (by simp)
theorem first_3 {w : World} {b c : Nat} {x y z : Int} {l : List HProp} (hE : Ent (pt b (.cells #[.int .i64 x, .int .i64 y, .int .i64 z] 34) :: l) w) :
    Calls Try.prog 74 #[.slice (some ⟨b, 0, none⟩) 3 c] w fun e w' => e = .returned (.int .i64 (firstE [x, y, z])) ∧ w = w' := first_blk [x, y, z] hE rfl (by simp)
def unlessE (b : Bool) (e : Int) : Int := if b = true then 0 else e
theorem unless_e (b : Bool) (e : Int) (w : World) : Calls Try.prog 76 #[.bool b, .int .i64 e] w fun x w' => x = .returned (.int .i64 (unlessE b e)) ∧ w = w' := unless_any b e w
attribute [irreducible] firstE unlessE

theorem powerE_is (s : DS) : firstE [0, unlessE (!s.dead) 4] = s.powerE := by
  unfold firstE unlessE DS.powerE
  cases s.dead <;> simp [firstE]
theorem power_any {l : List HProp} {w : World} {p : Nat} {s : DS} (hE : Ent (disk p s :: l) w) : Calls Try.prog 72 #[.pointer (some ⟨p, 0, none⟩)] w (Ret fun v w' => v = .int .i64 s.powerE ∧ Ent (disk p s :: l) w') := by
  go_enter Try.func72, Try.ntmps72
  go_wp2_with (first
    | (go_at_call 76; refine (unless_e _ _ _).mono ?_; rintro e w2 ⟨rfl, rfl⟩)
    | (go_at_call 75; refine (there_any _ _).mono ?_; rintro e w2 ⟨rfl, rfl⟩)
    | (go_at_call 34; refine (Alive_any hE).mono ?_; rintro e w2 ⟨rfl, rfl⟩)
    | (go_at_call 74; have H := first_2 (c := 2) (x := 0) (y := unlessE (!s.dead) 4) (hE.alloc _); refine H.mono ?_; clear H; rintro e w2 ⟨rfl, rfl⟩))
  go_ret
  exact ⟨_, rfl, by rw [powerE_is]; rfl, (hE.alloc _).tail⟩

theorem power_nil (w : World) (l : List HProp) (hE : Ent l w) : Calls Try.prog 72 #[.pointer none] w (Ret fun v w' => v = .int .i64 1 ∧ Ent l w') := by
  have H : firstE [1, unlessE false 4] = 1 := by unfold firstE; simp
  go_enter Try.func72, Try.ntmps72
  go_wp2_with (first
    | (go_at_call 76; refine (unless_e _ _ _).mono ?_; rintro e w2 ⟨rfl, rfl⟩)
    | (go_at_call 75; refine (there_nil _).mono ?_; rintro e w2 ⟨rfl, rfl⟩)
    | (go_at_call 34; refine (Alive_nil _).mono ?_; rintro e w2 ⟨rfl, rfl⟩)
    | (go_at_call 74; have H := first_2 (c := 2) (x := 1) (y := unlessE false 4) (hE.alloc _); refine H.mono ?_; clear H; rintro e w2 ⟨rfl, rfl⟩))
  go_ret
  exact ⟨_, rfl, rfl, (hE.alloc _).tail⟩

theorem hasE_is (s : DS) (k : Int) : unlessE (decide (0 ≤ k) && decide (k < (s.on.length : Int))) 2 = s.hasE k := by
  unfold unlessE DS.hasE
  simp
theorem has_any {l : List HProp} {w : World} {p : Nat} {s : DS} (k : Int) (hE : Ent (disk p s :: l) w) : Calls Try.prog 78 #[.pointer (some ⟨p, 0, none⟩), .int .i64 k] w (fun x w' => x = .returned (.int .i64 (s.hasE k)) ∧ w = w') := by
  have H := SL.hid (hasE_is s k)
  by_cases hk : 0 ≤ k
  · go_enter Try.func78, Try.ntmps78
    go_wp2_with (first
      | go_skip
      | (go_at_call 76; refine (unless_e _ _ _).mono ?_; rintro e w2 ⟨rfl, rfl⟩)
      | (go_at_call 50; refine (Len_any hE).mono ?_; rintro e w2 ⟨rfl, rfl⟩))
    go_ret
    rw [← H.out]
    simp [hk]
  · go_enter Try.func78, Try.ntmps78
    go_wp2_with (first
      | go_skip
      | (go_at_call 76; refine (unless_e _ _ _).mono ?_; rintro e w2 ⟨rfl, rfl⟩)
      | (go_at_call 50; refine (Len_any hE).mono ?_; rintro e w2 ⟨rfl, rfl⟩))
    go_ret
    rw [← H.out]
    simp [show decide (0 ≤ k) = false by simp; omega]
theorem has_nil (k : Int) (w : World) : Calls Try.prog 78 #[.pointer none, .int .i64 k] w (fun x w' => x = .returned (.int .i64 2) ∧ w = w') := by
  have H := SL.hid (show unlessE false 2 = 2 by unfold unlessE; simp)
  have hk : decide (k < 0) = true ∨ decide (k < 0) = false := by cases decide (k < 0) <;> simp
  rcases hk with hk | hk
  all_goals
    have hk2 := hk
    simp only [decide_eq_true_eq, decide_eq_false_iff_not] at hk2
    by_cases h0 : 0 ≤ k
    all_goals
      go_enter Try.func78, Try.ntmps78
      go_wp2_with (first
        | go_skip
        | (go_at_call 76; refine (unless_e _ _ _).mono ?_; rintro e w2 ⟨rfl, rfl⟩)
        | (go_at_call 50; refine (Len_nil _).mono ?_; rintro e w2 ⟨rfl, rfl⟩))
      go_ret
      first
        | (rw [H.out]; exact ⟨rfl, rfl⟩)
        | (exfalso; omega)
        | (simp_all [H.out]; done)
end Go.Proofs.Ytpchnmcofkffiaa
