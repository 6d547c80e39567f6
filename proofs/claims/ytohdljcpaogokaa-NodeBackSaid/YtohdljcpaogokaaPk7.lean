/-
  Proved here, with no condition but the lengths that are named: the closures of the opener's readers give the number, the text and the hash of the bytes.
-/
import Derived.Test.YtohdljcpaogokaaPk6
namespace Go.Proofs.Ytohdljcpaogokaa
open Go.RowKit Go.SL

/-- the number of bytes -/
def beVal (l : List UInt8) : Nat := l.foldl (fun n c => (n * 256 + c.toNat) % 18446744073709551616) 0

theorem beVal_snoc (l : List UInt8) (c : UInt8) : beVal (l ++ [c]) = (beVal l * 256 + c.toNat) % 18446744073709551616 := by simp [beVal]
theorem beVal_lt (l : List UInt8) : beVal l < 18446744073709551616 := by
  rcases List.eq_nil_or_concat l with rfl | ⟨l', c, rfl⟩
  · simp [beVal]
  · rw [List.concat_eq_append, beVal_snoc]; omega

def TakeRel (ys : List UInt8) (n i : Value) : Prop := ∃ k : Nat, k ≤ ys.length ∧ i = .int .i64 k ∧ n = .int .u64 (beVal (ys.take k))

theorem be_or (a c : Nat) (ha : a < 18446744073709551616) (hc : c < 256) : bits BinOp.or IntKind.u64 (IntKind.u64.wrap ((a : Int) * 256)) (IntKind.u64.wrap (c : Int)) = ((a * 256 + c) % 18446744073709551616 : Nat) := by
  have e1 : IntKind.u64.wrap ((a : Int) * 256) = ((a % 72057594037927936 * 256 : Nat) : Int) := by
    simp only [IntKind.wrap, IntKind.bits, IntKind.signed, Bool.false_and, Bool.false_eq_true, if_false]
    omega
  have e2 : IntKind.u64.wrap (c : Int) = ((c : Nat) : Int) := by
    simp only [IntKind.wrap, IntKind.bits, IntKind.signed, Bool.false_and, Bool.false_eq_true, if_false]
    omega
  rw [e1, e2, u64_or_nat _ _ (by omega) (by omega)]
  have h := Nat.shiftLeft_add_eq_or_of_lt (a := a % 72057594037927936) (b := c) (i := 8) (by simpa using hc)
  rw [Nat.shiftLeft_eq] at h
  simp only [Nat.reducePow] at h
  rw [← h]
  congr 1
  omega

theorem TakeRel.step {ys : List UInt8} {k : Nat} (hlt : k < ys.length) : TakeRel ys (.int .u64 (bits BinOp.or IntKind.u64 (IntKind.u64.wrap ((beVal (ys.take k) : Nat) * 256 : Int)) (IntKind.u64.wrap (ys[k].toNat : Int)))) (.int .i64 ((k : Int) + 1)) := by
  refine ⟨k + 1, hlt, by simp, ?_⟩
  rw [be_or _ _ (beVal_lt _) (by have := ys[k].toNat_lt; omega), List.take_succ_eq_append_getElem hlt, beVal_snoc]

set_option maxRecDepth 100000 in
theorem Take1_any (n : Nat) (hmax : n ≤ 1099511627776) : Says 92 n (fun ys => .int .u64 (beVal ys)) := by
  intro l ao c ys w hn hE hk
  have hr := hk w hE
  subst hn
  rcases Nat.eq_zero_or_pos ys.length with h0 | h0
  · obtain rfl := List.eq_nil_of_length_eq_zero h0
    clear hr h0 hk
    go_enter Try.func92, Try.ntmps92
    go_wp2
    go_loop [3, 8] (fun n i => i = .int .i64 0 ∧ n = .int .u64 0) (fun _ _ => 0)
    case atStart => exact ⟨rfl, rfl⟩
    case round =>
      obtain ⟨rfl, rfl⟩ := hrel
      go_wp2
      go_ret
      exact ⟨_, rfl, rfl, hE⟩
  · obtain ⟨b, off, rfl, hc⟩ := reads_form hr h0 (by simpa [bvals] using h0)
    clear hr hk
    go_enter Try.func92, Try.ntmps92
    go_wp2
    go_loop [3, 8] (fun n i => TakeRel ys n i) (fun _ i => ys.length - (intOf i).toNat)
    case atStart => exact ⟨0, Nat.zero_le _, rfl, by simp [beVal]⟩
    case round =>
      obtain ⟨k, hk, rfl, rfl⟩ := hrel
      by_cases hlt : k < ys.length
      · have hck : w.cell? ⟨b, off + k, none⟩ = some (.int .u8 (ys[k].toNat : Int)) := hc k _ (by simp [bvals, bval, hlt])
        clear hc
        have hv := beVal_lt (ys.take k)
        go_wp2
        go_round
        case rel => exact TakeRel.step hlt
        case measure => simp [intOf]; omega
      · go_wp2
        go_ret
        have : k = ys.length := by omega
        subst this
        exact ⟨_, rfl, by simp, hE⟩

theorem Text1_says (n : Nat) : Says 94 n (fun ys => .string ⟨ys.toArray⟩) := by
  intro l ao c ys w hn hE hk
  have hr := hk w hE
  go_enter Try.func94, Try.ntmps94
  go_wp2_with (refine wpl_bytesStr rfl rfl rfl Try.underlying42 Try.underlying5 Try.underlying9 hr hn.symm ?_)
  go_ret
  exact ⟨_, rfl, rfl, hE⟩

def hashZero : Value := .agg (Array.replicate 32 (.int .u8 0))

set_option maxRecDepth 100000 in
theorem Hash1_says : Says 96 32 (fun ys => .agg (bvals ys).toArray) := by
  intro l ao c ys w hn hE hk
  have hr := hk w hE
  obtain ⟨b, off, rfl, _⟩ := reads_form hr (by decide) (by simp [bvals, hn])
  go_enter Try.func96, Try.ntmps96
  go_wp2_with (first | ((with_reducible (show Go.wpList _ _ _ (Go.Oper.mk _ (.alloc _) _ _ _ _ :: _) _ _)); refine wpl_alloc hE rfl rfl (by simp [go_sem]; rfl) ?_; clear hE; intro b w hE; simp only [Act.eval, Act.put, List.setIfInBounds_toArray, List.set_cons_zero, List.set_cons_succ, getD_lit, List.getD_cons_succ, List.getD_cons_zero, Value.cells] at hE) | (refine wpl_arrayPtr rfl rfl rfl Try.underlying56 (by decide) ?_) | (refine wpl_loadR rfl rfl rfl Try.isAgg56 Try.sizeOf56 (hk _ hE.tail) (by simp [bvals, hn]) ?_) | (refine wpl_storeW hE 0 rfl rfl rfl rfl rfl Try.sizeOf56 (by simp [bvals, hn]) (bvals_one ys) rfl ?_; clear hE; intro w hE))
  refine bodyPost_ret (v := .agg (bvals ys).toArray) (results_cellA rfl hE 0 rfl rfl Try.isAgg56 Try.sizeOf56 (by simp [bvals, hn])) rfl ?_
  exact ⟨_, rfl, rfl, hE.tail⟩
