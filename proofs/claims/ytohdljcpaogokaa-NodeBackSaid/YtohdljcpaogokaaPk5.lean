/-
  Proved here, with no condition but the lengths that are named: what the packer hands out, the copy of bytes, and a new opener over bytes.
-/
import Derived.Test.YtohdljcpaogokaaPk4
import Derived.BigQuiet
import Derived.Deep.QuietTactic
namespace Go.Proofs.Ytohdljcpaogokaa
open Go.RowKit Go.SL

theorem Ent.rowB0 {w : World} {l : List HProp} (hE : Ent l w) : Ent (rowB (some ⟨w.heap.size, 0, none⟩) 0 [] :: l) (w.alloc (.cells #[] 5)) :=
  (hE.alloc _).toRow 0 rfl (by simp [bvals]) (by simp) (by unfold maxLen; omega) (by simp) (by simp [bvals])

/-- slices.Clone of bytes -/
theorem Clone_any {l : List HProp} {w : World} (hE : Ent l w) {ao : Option Addr} {c : Nat} {bs : List UInt8} (hk : Knows l (reads (.slice ao bs.length c) bs.length (bvals bs))) (hb : bs.length ≤ 1099511627776) :
    Calls Try.prog 87 #[.slice ao bs.length c] w (Ret fun v w' => ∃ ao c, v = .slice ao bs.length c ∧ Ent (rowB ao c bs :: l) w') := by
  have hn := fun W => Lib.run_eql_slice_nil (P := Try.prog) (w := W) 42
  cases ao with
  | none =>
    have hr := hk w hE
    obtain ⟨ao', c', e, h1, _⟩ := hr
    cases e
    have h0 : bs = [] := by
      have := (h1 rfl).2
      simpa [bvals] using this
    subst h0
    clear h1 hk
    go_enter Try.func87, Try.ntmps87
    go_wp2_with (fail)
    go_ret
    exact ⟨_, rfl, _, _, rfl, hE.nil _ _⟩
  | some ad =>
    go_enter Try.func87, Try.ntmps87
    go_wp2_with (at_builtin; refine wpl_appendB (Ent.rowB0 hE) 0 rfl rfl rfl rfl rfl (ys := bs) (hk _ (Ent.rowB0 hE).tail) (by simp; omega) ?_; intro ao2 c2 w2 hE2)
    go_ret
    refine ⟨_, rfl, ao2, c2, ?_, by simpa using hE2⟩
    simp

theorem Bytes_nil (w : World) : Calls Try.prog 44 #[.pointer none] w (fun e w' => e = .returned (.tuple #[.slice none 0 0, .int .i64 1]) ∧ w = w') := by
  go_enter Try.func44, Try.ntmps44
  go_wp2
  go_ret2
  exact ⟨rfl, rfl⟩

theorem Bytes_ok {l : List HProp} {w : World} {p : Nat} {bs : List UInt8} (hE : Ent (packer p bs 0 :: l) w) (hb : bs.length ≤ 1099511627776) :
    Calls Try.prog 44 #[.pointer (some ⟨p, 0, none⟩)] w (Ret fun v w' => ∃ ao c, v = .tuple #[.slice ao bs.length c, .int .i64 0] ∧ Ent (rowB ao c bs :: packer p bs 0 :: l) w') := by
  obtain ⟨ao, c, hE⟩ := packer_open hE
  go_enter Try.func44, Try.ntmps44
  go_wp2_with (first | ((with_reducible (show Go.wpList _ _ _ (Go.Oper.mk _ (.load _ _) _ _ _ _ :: _) _ _)); first | (refine wpl_load1 hE 0 rfl rfl rfl rfl (by simp [go_sem]) rfl ?_) | (refine wpl_load1 hE 1 rfl rfl rfl rfl (by simp [go_sem]) rfl ?_) | (refine wpl_load1 hE 2 rfl rfl rfl rfl (by simp [go_sem]) rfl ?_) | (refine wpl_load1 hE 3 rfl rfl rfl rfl (by simp [go_sem]) rfl ?_) | (refine wpl_load1 hE 4 rfl rfl rfl rfl (by simp [go_sem]) rfl ?_) | (refine wpl_load1 hE 5 rfl rfl rfl rfl (by simp [go_sem]) rfl ?_)) | (go_at_call 87; refine (Clone_any hE (fun w h => reads_row h 1 rfl) hb).mono ?_; rintro e w2 ⟨v, rfl, ao2, c2, rfl, hE2⟩))
  go_ret2
  exact ⟨_, rfl, ao2, c2, rfl, (packer_close (hE2.front 1 rfl |>.front 2 rfl |>.front 1 rfl)).perm (.swap _ _ _)⟩

theorem Bytes_err {l : List HProp} {w : World} {p : Nat} {bs : List UInt8} {err : Int} (he : (err == 0) = false) (hE : Ent (packer p bs err :: l) w) :
    Calls Try.prog 44 #[.pointer (some ⟨p, 0, none⟩)] w (Ret fun v w' => v = .tuple #[.slice none 0 0, .int .i64 err] ∧ Ent (packer p bs err :: l) w') := by
  have hE0 := hE
  obtain ⟨ao, c, hE⟩ := packer_open hE
  have c1 : w.cell? ⟨p, 1, none⟩ = some (.int .i64 err) := hE.cell 0 rfl 1
  go_enter Try.func44, Try.ntmps44
  go_wp2
  go_quiet (fail)
  go_wp2
  go_ret2
  exact ⟨_, rfl, rfl, hE0.drewN _⟩

/-- an opener: what is left of its bytes, and its error -/
def opener (o : Nat) (bs : List UInt8) (err : Int) : HProp := ex fun x : { x : Option Addr × Nat // bs.length ≤ x.2 } => [pt o (.cells #[.slice x.1.1 bs.length x.1.2, .int .i64 err] 136), view (.slice x.1.1 bs.length x.1.2) bs.length (bvals bs)]

theorem opener_open {l : List HProp} {w : World} {p : Nat} {bs : List UInt8} {err : Int} (hE : Ent (opener p bs err :: l) w) :
    ∃ ao c, bs.length ≤ c ∧ Ent (pt p (.cells #[.slice ao bs.length c, .int .i64 err] 136) :: view (.slice ao bs.length c) bs.length (bvals bs) :: l) w := let ⟨x, h⟩ := Ent.unpack hE; ⟨x.1.1, x.1.2, x.2, h⟩
theorem opener_close {l : List HProp} {w : World} {p : Nat} {bs : List UInt8} {err : Int} {ao : Option Addr} {c : Nat} (hc : bs.length ≤ c)
    (hE : Ent (pt p (.cells #[.slice ao bs.length c, .int .i64 err] 136) :: view (.slice ao bs.length c) bs.length (bvals bs) :: l) w) : Ent (opener p bs err :: l) w := Ent.pack ⟨(ao, c), hc⟩ hE

theorem row_cap {l : List HProp} {w : World} (hE : Ent l w) (i : Nat) {ao : Option Addr} {c : Nat} {bs : List UInt8} (hi : l[i]? = some (rowB ao c bs)) : bs.length ≤ c := by
  have h := hE.owns i hi
  rcases h.2 with ⟨h1, h2⟩ | ⟨g, cap, cur, h1, _, _, h2, _⟩
  · simp only [Value.slice.injEq] at h1; omega
  · simp only [Value.slice.injEq] at h1; omega

theorem Of_any {l : List HProp} {w : World} (hE : Ent l w) {ao : Option Addr} {c : Nat} {bs : List UInt8} (hk : Knows l (reads (.slice ao bs.length c) bs.length (bvals bs))) (hb : bs.length ≤ 1099511627776) :
    Calls Try.prog 47 #[.slice ao bs.length c] w (Ret fun v w' => ∃ o, v = .pointer (some ⟨o, 0, none⟩) ∧ Ent (opener o bs 0 :: l) w') := by
  go_enter Try.func47, Try.ntmps47
  go_wp2_with (first | ((with_reducible (show Go.wpList _ _ _ (Go.Oper.mk _ (.box _ _) _ _ _ _ :: _) _ _)); refine wpl_box hE rfl rfl rfl ?_; clear hE; intro b w hE; simp only [Act.eval, Act.put, List.setIfInBounds_toArray, List.set_cons_zero, List.set_cons_succ, getD_lit, List.getD_cons_succ, List.getD_cons_zero, Value.cells] at hE) | (go_at_call 87; refine (Clone_any hE hk hb).mono ?_; rintro e w2 ⟨v, rfl, ao2, c2, rfl, hE⟩))
  go_ret
  refine ⟨_, rfl, _, rfl, opener_close (row_cap hE 1 rfl) (hE.toView 1 rfl)⟩

def tkOk (n : Int) (bs : List UInt8) (err : Int) : Bool := err == 0 && decide (0 ≤ n) && decide (n ≤ bs.length)
def tkE (n : Int) (bs : List UInt8) (err : Int) : Int := if err == 0 && !(decide (0 ≤ n) && decide (n ≤ bs.length)) then 3 else err
def tkB (n : Int) (bs : List UInt8) (err : Int) : List UInt8 := if tkOk n bs err then bs.drop n.toNat else bs

/-- a reader of so many bytes -/
def Says (k : FuncId) (n : Nat) (f : List UInt8 → Value) : Prop :=
  ∀ (l : List HProp) (ao : Option Addr) (c : Nat) (ys : List UInt8) (w : World), ys.length = n → Ent l w → Knows l (reads (.slice ao n c) n (bvals ys)) →
    Calls Try.prog k #[.slice ao n c] w (Ret fun v w' => v = f ys ∧ Ent l w')

theorem bvals_cut (bs : List UInt8) (lo n : Nat) : ((bvals bs).drop (lo * 1)).take (n * 1) = bvals ((bs.drop lo).take n) := by simp [bvals, List.map_take, List.map_drop]

theorem take_uint64_nil (n : Int) (k : FuncId) (w : World) : Calls Try.prog 91 #[.pointer none, .int .i64 n, .func (.func k) #[] #[]] w (fun e w' => e = .returned (.int .u64 0) ∧ w = w') := by
  go_enter Try.func91, Try.ntmps91
  go_wp2_with (first | go_skip | fail)
  go_ret
  exact ⟨rfl, rfl⟩

theorem take_uint64_err {l : List HProp} {w : World} {o : Nat} {bs : List UInt8} {err : Int} (he : (err == 0) = false) (hE : Ent (opener o bs err :: l) w) (n : Int) (k : FuncId) :
    Calls Try.prog 91 #[.pointer (some ⟨o, 0, none⟩), .int .i64 n, .func (.func k) #[] #[]] w (Ret fun v w' => v = .int .u64 0 ∧ Ent (opener o bs err :: l) w') := by
  obtain ⟨ao, c, hc, hE⟩ := opener_open hE
  go_enter Try.func91, Try.ntmps91
  have he' : (err != 0) = true := by simpa using he
  go_wp2_with (first | go_skip | ((with_reducible (show Go.wpList _ _ _ (Go.Oper.mk _ (.load _ _) _ _ _ _ :: _) _ _)); first | (refine wpl_load1 hE 0 rfl rfl rfl rfl (by simp [go_sem]) rfl ?_) | (refine wpl_load1 hE 1 rfl rfl rfl rfl (by simp [go_sem]) rfl ?_) | (refine wpl_load1 hE 2 rfl rfl rfl rfl (by simp [go_sem]) rfl ?_) | (refine wpl_load1 hE 3 rfl rfl rfl rfl (by simp [go_sem]) rfl ?_) | (refine wpl_load1 hE 4 rfl rfl rfl rfl (by simp [go_sem]) rfl ?_) | (refine wpl_load1 hE 5 rfl rfl rfl rfl (by simp [go_sem]) rfl ?_)))
  go_ret
  exact ⟨_, rfl, rfl, opener_close hc hE⟩

theorem take_string_nil (n : Int) (k : FuncId) (w : World) : Calls Try.prog 93 #[.pointer none, .int .i64 n, .func (.func k) #[] #[]] w (fun e w' => e = .returned (.string ⟨#[]⟩) ∧ w = w') := by
  go_enter Try.func93, Try.ntmps93
  go_wp2_with (first | go_skip | fail)
  go_ret
  exact ⟨rfl, rfl⟩

theorem take_string_err {l : List HProp} {w : World} {o : Nat} {bs : List UInt8} {err : Int} (he : (err == 0) = false) (hE : Ent (opener o bs err :: l) w) (n : Int) (k : FuncId) :
    Calls Try.prog 93 #[.pointer (some ⟨o, 0, none⟩), .int .i64 n, .func (.func k) #[] #[]] w (Ret fun v w' => v = .string ⟨#[]⟩ ∧ Ent (opener o bs err :: l) w') := by
  obtain ⟨ao, c, hc, hE⟩ := opener_open hE
  go_enter Try.func93, Try.ntmps93
  have he' : (err != 0) = true := by simpa using he
  go_wp2_with (first | go_skip | ((with_reducible (show Go.wpList _ _ _ (Go.Oper.mk _ (.load _ _) _ _ _ _ :: _) _ _)); first | (refine wpl_load1 hE 0 rfl rfl rfl rfl (by simp [go_sem]) rfl ?_) | (refine wpl_load1 hE 1 rfl rfl rfl rfl (by simp [go_sem]) rfl ?_) | (refine wpl_load1 hE 2 rfl rfl rfl rfl (by simp [go_sem]) rfl ?_) | (refine wpl_load1 hE 3 rfl rfl rfl rfl (by simp [go_sem]) rfl ?_) | (refine wpl_load1 hE 4 rfl rfl rfl rfl (by simp [go_sem]) rfl ?_) | (refine wpl_load1 hE 5 rfl rfl rfl rfl (by simp [go_sem]) rfl ?_)))
  go_ret
  exact ⟨_, rfl, rfl, opener_close hc hE⟩

theorem reads_take {w : World} {ao : Option Addr} {c : Nat} {bs : List UInt8} (hr : reads (.slice ao bs.length c) bs.length (bvals bs) w) {n : Nat} (hn : n ≤ bs.length) (hc : bs.length ≤ c) : reads (.slice (cutAt 1 ao c 0) n c) n (bvals (bs.take n)) w := by
  have h := reads_cut (size := 1) hr (by simp [bvals]) (Nat.zero_le n) hn hc
  rw [bvals_cut] at h
  simpa using h

theorem opener_drop {l : List HProp} {w : World} {p : Nat} {bs : List UInt8} {err : Int} {ao : Option Addr} {c : Nat} (hc : bs.length ≤ c) {n : Nat} (hn : n ≤ bs.length)
    (hE : Ent (pt p (.cells #[.slice (cutAt 1 ao c n) (bs.length - n) (c - n), .int .i64 err] 136) :: view (.slice ao bs.length c) bs.length (bvals bs) :: l) w) : Ent (opener p (bs.drop n) err :: l) w := by
  have h := hE.cutView (size := 1) 1 rfl (by simp [bvals]) hn (Nat.le_refl _) hc
  rw [bvals_cut, ← List.length_drop, List.take_length] at h
  refine opener_close (ao := cutAt 1 ao c n) (c := c - n) (by simp; omega) ?_
  exact h
