/-
  Proved here, with no condition but the lengths that are named: the opener's readers of numbers, texts and hashes at every input.
-/
import Derived.Test.YtohdljcpaogokaaPk9
namespace Go.Proofs.Ytohdljcpaogokaa
open Go.RowKit Go.SL

def wideN (width : Int) : Int := if wideB width then width else -1

theorem oTake_any {l : List HProp} {w : World} {o : Nat} {bs : List UInt8} {err : Int} (hE : Ent (opener o bs err :: l) w) (hb : bs.length ≤ 1099511627776) (width : Int) :
    Calls Try.prog 55 #[.pointer (some ⟨o, 0, none⟩), .int .i64 width] w (Ret fun v w' => v = .int .u64 (valT (tkOk (wideN width) bs err) bs (wideN width)) ∧ Ent (opener o (tkB (wideN width) bs err) (tkE (wideN width) bs err) :: l) w') := by
  cases hw : wideB width with
  | true =>
    have hn : wideN width = width := by simp [wideN, hw]
    rw [hn]
    clear hn
    go_enter Try.func55, Try.ntmps55
    go_wp2_with (first | (go_at_call 75; refine (wide_is _ true hw _).mono ?_; rintro e w2 ⟨rfl, rfl⟩) | (go_at_call 91; refine (take_uint64_any hE hb _).mono ?_; rintro e w2 ⟨v, rfl, rfl, hE⟩))
    go_ret
    exact ⟨_, rfl, rfl, hE⟩
  | false =>
    have hn : wideN width = -1 := by simp [wideN, hw]
    rw [hn]
    clear hn
    go_enter Try.func55, Try.ntmps55
    go_wp2_with (first | (go_at_call 75; refine (wide_is _ false hw _).mono ?_; rintro e w2 ⟨rfl, rfl⟩) | (go_at_call 91; refine (take_uint64_any hE hb _).mono ?_; rintro e w2 ⟨v, rfl, rfl, hE⟩))
    go_ret
    exact ⟨_, rfl, rfl, hE⟩

theorem oTake_nil (width : Int) (hw : wideB width = true) (w : World) :
    Calls Try.prog 55 #[.pointer none, .int .i64 width] w (fun e w' => e = .returned (.int .u64 0) ∧ w = w') := by
  go_enter Try.func55, Try.ntmps55
  go_wp2_with (first | (go_at_call 75; refine (wide_is _ true hw _).mono ?_; rintro e w2 ⟨rfl, rfl⟩) | (go_at_call 91; refine (take_uint64_nil _ _ _).mono ?_; rintro e w2 ⟨rfl, rfl⟩))
  go_ret
  exact ⟨rfl, rfl⟩

theorem oText_any {l : List HProp} {w : World} {o : Nat} {bs : List UInt8} {err : Int} (hE : Ent (opener o bs err :: l) w) (hb : bs.length ≤ 1099511627776) (n : Int) :
    Calls Try.prog 56 #[.pointer (some ⟨o, 0, none⟩), .int .i64 n] w (Ret fun v w' => v = .string ⟨(strT (tkOk n bs err) bs n).toArray⟩ ∧ Ent (opener o (tkB n bs err) (tkE n bs err) :: l) w') := by
  go_enter Try.func56, Try.ntmps56
  go_wp2_with (go_at_call 93; refine (take_string_any hE hb _).mono ?_; rintro e w2 ⟨v, rfl, rfl, hE⟩)
  go_ret
  exact ⟨_, rfl, rfl, hE⟩

theorem oText_nil (n : Int) (w : World) : Calls Try.prog 56 #[.pointer none, .int .i64 n] w (fun e w' => e = .returned (.string ⟨#[]⟩) ∧ w = w') := by
  go_enter Try.func56, Try.ntmps56
  go_wp2_with (go_at_call 93; refine (take_string_nil _ _ _).mono ?_; rintro e w2 ⟨rfl, rfl⟩)
  go_ret
  exact ⟨rfl, rfl⟩

set_option maxRecDepth 100000 in
theorem oHash_any {l : List HProp} {w : World} {o : Nat} {bs : List UInt8} {err : Int} (hE : Ent (opener o bs err :: l) w) :
    Calls Try.prog 58 #[.pointer (some ⟨o, 0, none⟩)] w (Ret fun v w' => v = .agg (bvals (hashT (tkOk 32 bs err) bs 32)).toArray ∧ Ent (opener o (tkB 32 bs err) (tkE 32 bs err) :: l) w') := by
  have H32 := SL.hid (show (bvals (hashT (tkOk 32 bs err) bs 32)).length = 32 by rw [bvals_length, hashT_length])
  go_enter Try.func58, Try.ntmps58
  go_wp2_with (first | ((with_reducible (show Go.wpList _ _ _ (Go.Oper.mk _ (.alloc _) _ _ _ _ :: _) _ _)); refine wpl_alloc hE rfl rfl (by simp [go_sem]; rfl) ?_; clear hE; intro b w hE; simp only [Act.eval, Act.put, List.setIfInBounds_toArray, List.set_cons_zero, List.set_cons_succ, getD_lit, List.getD_cons_succ, List.getD_cons_zero, Value.cells] at hE) | (go_at_call 95; refine (take_Hash_any (hE.front 1 rfl)).mono ?_; rintro e w2 ⟨v, rfl, rfl, hE⟩) | (refine wpl_storeW hE 1 rfl rfl rfl rfl rfl Try.sizeOf56 H32.out (bvals_one _) rfl ?_; clear hE; intro w hE))
  refine bodyPost_ret (v := .agg (bvals (hashT (tkOk 32 bs err) bs 32)).toArray) (results_cellA rfl hE 1 rfl rfl Try.isAgg56 Try.sizeOf56 H32.out) rfl ?_
  exact ⟨_, rfl, rfl, hE.erase 1⟩

set_option maxRecDepth 100000 in
theorem oHash_nil {l : List HProp} {w : World} (hE : Ent l w) :
    Calls Try.prog 58 #[.pointer none] w (Ret fun v w' => v = .agg (bvals hz).toArray ∧ Ent l w') := by
  have H32 := SL.hid (show (bvals hz).length = 32 by rfl)
  go_enter Try.func58, Try.ntmps58
  go_wp2_with (first | ((with_reducible (show Go.wpList _ _ _ (Go.Oper.mk _ (.alloc _) _ _ _ _ :: _) _ _)); refine wpl_alloc hE rfl rfl (by simp [go_sem]; rfl) ?_; clear hE; intro b w hE; simp only [Act.eval, Act.put, List.setIfInBounds_toArray, List.set_cons_zero, List.set_cons_succ, getD_lit, List.getD_cons_succ, List.getD_cons_zero, Value.cells] at hE) | (go_at_call 95; refine (take_Hash_nil hE _ _).mono ?_; rintro e w2 ⟨v, rfl, rfl, hE⟩) | (refine wpl_storeW hE 0 rfl rfl rfl rfl rfl Try.sizeOf56 H32.out (bvals_one _) rfl ?_; clear hE; intro w hE))
  refine bodyPost_ret (v := .agg (bvals hz).toArray) (results_cellA rfl hE 0 rfl rfl Try.isAgg56 Try.sizeOf56 H32.out) rfl ?_
  exact ⟨_, rfl, rfl, hE.tail⟩

/-- what is read of a name: the text, what is left, the error -/
def nameOk (bs : List UInt8) : Bool := match bs with | [] => false | c :: r => decide (c.toNat ≤ r.length)
