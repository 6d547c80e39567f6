/-
  The sheet of a sector, as the program takes it. Printed by gen_ss2.py.
-/
import Derived.Test.YtdpfigkjkjjedaaDoorRecordsF2
import Derived.Deep.RegionLaw
import Derived.RangeFuncNested
import Derived.RangeFuncCalls
import Derived.RangeFuncLeaves
import Derived.WalkKit
import Derived.OwnWalkIn
import Derived.TacticsInMore
import Derived.LoopNIn
import Derived.LoopIn
import Derived.Shelf.RegionOpen
import Derived.Deep.RegionHeld
import Derived.Lib.FrozenHead
import Derived.Shelf.RegionOpenPlain
import Derived.Laws.Externs
import Derived.Lib.UnsafeStr
import Derived.Lib.Builder
namespace Go.Proofs.YtdpfigkjkjjedaaDoor
open Go.RowKit Go.SL

def shZ : Sht := ⟨0, false, []⟩
def resS (b : List UInt8) : Sht := if rdOk b then rdS b else shZ
def resSE (b : List UInt8) : Int := if rdOk b then 0 else 3
theorem tkV2_lt (s : St) : tkV 2 s < 65536 := by
  unfold tkV valT
  split
  · rcases h : s.bs with _ | ⟨c, _ | ⟨d, r⟩⟩
    · show beVal (List.take (2 : Int).toNat []) < 65536
      simp [beVal]
    · show beVal [c] < 65536
      rw [beVal_one]; have := c.toNat_lt; omega
    · show beVal [c, d] < 65536
      have := c.toNat_lt
      have := d.toNat_lt
      simp only [beVal, List.foldl_cons, List.foldl_nil]
      omega
  · omega
theorem two_is (n : Nat) : ((n : Int) == 2) = (n == 2) := by
  rw [Bool.eq_iff_iff]; simp only [beq_iff_eq]; omega

set_option maxRecDepth 100000 in
set_option maxHeartbeats 4000000 in
theorem sTake_any {b : List UInt8} {ao : Option Addr} {c : Nat} (hb : b.length ≤ 1000000) {l : List HProp} {w : World} (ht : Knows l Table) (hk : Knows l (reads (.slice ao b.length c) b.length (bvals b))) (hE : Ent l w) :
    Calls Tryd.prog 14 #[.slice ao b.length c] w (Ret fun v w' => v = .tuple #[shV (resS b), .int .i64 (resSE b)] ∧ Ent l w') := by
  have l1 : (rd1 b).bs.length ≤ b.length := tk_len _ _
  have l2 : (rd2 b).bs.length ≤ (rd1 b).bs.length := tk_len _ _
  have l3 : (rd3 b).bs.length ≤ (rd2 b).bs.length := tk_len _ _
  have hT8 : ∀ {l : List HProp} {w : World} {o : Nat}, Ent (opener o b 0 :: l) w → Calls Tryd.prog 53 #[.pointer (some ⟨o, 0, none⟩), .int .i64 8] w (Ret fun v w' => v = .int .u64 (rdS b).seq ∧ Ent (opener o (rd1 b).bs (rd1 b).err :: l) w') := fun h => sTake (s := ⟨b, 0⟩) h (by show b.length ≤ _; omega) 8
  have hT1 : ∀ {l : List HProp} {w : World} {o : Nat}, Ent (opener o (rd1 b).bs (rd1 b).err :: l) w → Calls Tryd.prog 53 #[.pointer (some ⟨o, 0, none⟩), .int .i64 1] w (Ret fun v w' => v = .int .u64 (tkV 1 (rd1 b)) ∧ Ent (opener o (rd2 b).bs (rd2 b).err :: l) w') := fun h => sTake (s := rd1 b) h (by omega) 1
  have hT2 : ∀ {l : List HProp} {w : World} {o : Nat}, Ent (opener o (rd2 b).bs (rd2 b).err :: l) w → Calls Tryd.prog 53 #[.pointer (some ⟨o, 0, none⟩), .int .i64 2] w (Ret fun v w' => v = .int .u64 (tkV 2 (rd2 b)) ∧ Ent (opener o (rd3 b).bs (rd3 b).err :: l) w') := fun h => sTake (s := rd2 b) h (by omega) 2
  have hX : ∀ {l : List HProp} {w : World} {o : Nat}, Ent (opener o (rd3 b).bs (rd3 b).err :: l) w → Calls Tryd.prog 54 #[.pointer (some ⟨o, 0, none⟩), .int .i64 (tkV 2 (rd2 b))] w (Ret fun v w' => v = .string ⟨(rdS b).text.toArray⟩ ∧ Ent (opener o (rd4 b).bs (rd4 b).err :: l) w') := fun h => sText (s := rd3 b) h (by omega) _
  have h16 := tkV2_lt (rd2 b)
  have hwn : IntKind.i64.wrap ((tkV 2 (rd2 b) : Nat) : Int) = ((tkV 2 (rd2 b) : Nat) : Int) := wrap_id (by omega)
  have hla : (((tkV 1 (rd1 b) : Nat) : Int) == 2) = (rdS b).last := two_is _
  have Hsq := SL.hid (rdS_seq b)
  have Hok := SL.hid (show rdOk b = ((rd4 b).err == 0 && (decide ((rdS b).text.length ≤ 497) && (shP (rdS b).seq (rdS b).last (rdS b).text == b))) from rfl)
  have Hres := SL.hid (show resS b = if rdOk b then rdS b else shZ from rfl)
  have HresE := SL.hid (show resSE b = if rdOk b then 0 else 3 from rfl)
  have He := SL.hid (show rdS b = ⟨(rdS b).seq, (rdS b).last, (rdS b).text⟩ from rfl)
  clear l1 l2 l3
  generalize tkV 2 (rd2 b) = n2 at *
  generalize tkV 1 (rd1 b) = n1 at *
  generalize (rd1 b) = s1 at *
  generalize (rd2 b) = s2 at *
  generalize (rd3 b) = s3 at *
  generalize (rd4 b) = s4 at *
  generalize (rdS b).seq = sq at *
  generalize (rdS b).last = la at *
  generalize (rdS b).text = tt at *
  generalize rdOk b = ok at *
  obtain ⟨b4, e4⟩ := s4
  simp only at hX Hok
  cases he : (e4 == 0) with
  | true =>
    have he0 : e4 = 0 := by simpa using he
    subst he0
    by_cases hlen : tt.length ≤ 497
    · have Hlen := SL.hid hlen
      cases hq : (shP sq la tt == b) with
      | true =>
        have Hf := SL.hid (show ok = true by rw [Hok.out, hq]; simp [hlen])
        have Hq := SL.hid hq
        clear hq hlen he
        go_enter Tryd.func14, Tryd.ntmps14
        go_wp2_with (first
          | go_skip
          | ((with_reducible (show Go.wpList _ _ _ (Go.Oper.mk _ (.alloc _) _ _ _ _ :: _) _ _)); refine wpl_alloc hE rfl rfl (by simp [go_sem]; rfl) ?_; clear hE; intro b w hE; simp only [Act.eval, Act.put, List.setIfInBounds_toArray, List.set_cons_zero, List.set_cons_succ, getD_lit, List.getD_cons_succ, List.getD_cons_zero, Value.cells] at hE)
          | (go_at_call 52; have H := Of_any hE hk.cons (by omega); refine H.mono ?_; clear H hE; rintro e w2 ⟨v, rfl, o, rfl, hE⟩)
          | (go_at_call 53; have H := hT8 hE; refine H.mono ?_; clear H hE; rintro e w2 ⟨v, rfl, rfl, hE⟩; clear hT8)
          | (go_at_call 53; have H := hT1 hE; refine H.mono ?_; clear H hE; rintro e w2 ⟨v, rfl, rfl, hE⟩; clear hT1)
          | ((with_reducible (show Go.wpList _ _ _ (Go.Oper.mk _ (.store 30 (.tmp 5) _) _ _ _ _ :: _) _ _)); refine wpl_storeW hE 0 rfl rfl rfl (xs := [.int .u64 sq, .bool la, .string ⟨#[]⟩]) rfl rfl Tryd.sizeOf30 rfl (by simp [Value.oneCell']) rfl ?_; clear hE; intro w hE; simp only [List.set_cons_zero, List.set_cons_succ] at hE)
          | (go_at_call 53; have H := hT2 (hE.front 1 rfl); refine H.mono ?_; clear H hE; rintro e w2 ⟨v, rfl, rfl, hE⟩; simp only [List.eraseIdx_cons_succ, List.eraseIdx_cons_zero] at hE; clear hT2)
          | (go_at_call 54; have H := hX hE; refine H.mono ?_; clear H hE; rintro e w2 ⟨v, rfl, rfl, hE⟩; clear hX)
          | ((with_reducible (show Go.wpList _ _ _ (Go.Oper.mk _ (.store 9 _ _) _ _ _ _ :: _) _ _)); refine wpl_st1 hE 1 rfl rfl rfl rfl rfl (by first | (simp [go_sem]; done) | (simp [go_sem]; rfl)) rfl rfl (by simp) ?_; clear hE; intro w hE; simp only [Act.eval, getD_lit, List.getD_cons_succ, List.getD_cons_zero, List.set_cons_zero, List.set_cons_succ] at hE)
          | ((with_reducible (show Go.wpList _ _ _ (Go.Oper.mk _ (.load 30 _) _ _ _ _ :: _) _ _)); refine wpl_loadW hE 1 rfl rfl rfl rfl Tryd.isAgg30 Tryd.sizeOf30 rfl ?_)
          | ((with_reducible (show Go.wpList _ _ _ (Go.Oper.mk _ (.load 30 _) _ _ _ _ :: _) _ _)); refine wpl_loadW hE 2 rfl rfl rfl rfl Tryd.isAgg30 Tryd.sizeOf30 rfl ?_)
          | (go_at_call 11; refine (sPut_ok la Hsq.out Hlen.out (ht.cons.cons.cons) hE).mono ?_; clear hE; rintro e w6 ⟨v, rfl, ap, cp, rfl, hE⟩)
          | (go_at_call 55; have H := Err_any (hE.front 1 rfl); refine H.mono ?_; clear H; rintro e w7 ⟨rfl, rfl⟩)
          | (go_at_call 56; have H := Equal_any (reads_row hE 0 rfl) (hk _ hE.tail.tail.tail.tail); rw [Hq.out] at H; refine H.mono ?_; clear H; rintro e w7 ⟨rfl, rfl⟩)
          | (refine wpl_storeW hE 3 rfl rfl rfl (xs := [.int .u64 sq, .bool la, .string ⟨tt.toArray⟩]) rfl rfl Tryd.sizeOf30 rfl (by simp [Value.oneCell']) rfl ?_; clear hE; intro w hE; simp only [List.set_cons_zero, List.set_cons_succ] at hE))
        refine bodyPost_ret (results_cell2 rfl hE 3 rfl rfl Tryd.isAgg30 Tryd.sizeOf30 rfl rfl) rfl ?_
        rw [Hres.out, HresE.out, Hf.out]
        exact ⟨_, rfl, by rw [if_pos rfl, if_pos rfl, He.out]; rfl, hE.tail.tail.tail.tail⟩
      | false =>
        have Hf := SL.hid (show ok = false by rw [Hok.out, hq]; simp)
        have Hq := SL.hid hq
        clear hq hlen he
        go_enter Tryd.func14, Tryd.ntmps14
        go_wp2_with (first
          | go_skip
          | ((with_reducible (show Go.wpList _ _ _ (Go.Oper.mk _ (.alloc _) _ _ _ _ :: _) _ _)); refine wpl_alloc hE rfl rfl (by simp [go_sem]; rfl) ?_; clear hE; intro b w hE; simp only [Act.eval, Act.put, List.setIfInBounds_toArray, List.set_cons_zero, List.set_cons_succ, getD_lit, List.getD_cons_succ, List.getD_cons_zero, Value.cells] at hE)
          | (go_at_call 52; have H := Of_any hE hk.cons (by omega); refine H.mono ?_; clear H hE; rintro e w2 ⟨v, rfl, o, rfl, hE⟩)
          | (go_at_call 53; have H := hT8 hE; refine H.mono ?_; clear H hE; rintro e w2 ⟨v, rfl, rfl, hE⟩; clear hT8)
          | (go_at_call 53; have H := hT1 hE; refine H.mono ?_; clear H hE; rintro e w2 ⟨v, rfl, rfl, hE⟩; clear hT1)
          | ((with_reducible (show Go.wpList _ _ _ (Go.Oper.mk _ (.store 30 (.tmp 5) _) _ _ _ _ :: _) _ _)); refine wpl_storeW hE 0 rfl rfl rfl (xs := [.int .u64 sq, .bool la, .string ⟨#[]⟩]) rfl rfl Tryd.sizeOf30 rfl (by simp [Value.oneCell']) rfl ?_; clear hE; intro w hE; simp only [List.set_cons_zero, List.set_cons_succ] at hE)
          | (go_at_call 53; have H := hT2 (hE.front 1 rfl); refine H.mono ?_; clear H hE; rintro e w2 ⟨v, rfl, rfl, hE⟩; simp only [List.eraseIdx_cons_succ, List.eraseIdx_cons_zero] at hE; clear hT2)
          | (go_at_call 54; have H := hX hE; refine H.mono ?_; clear H hE; rintro e w2 ⟨v, rfl, rfl, hE⟩; clear hX)
          | ((with_reducible (show Go.wpList _ _ _ (Go.Oper.mk _ (.store 9 _ _) _ _ _ _ :: _) _ _)); refine wpl_st1 hE 1 rfl rfl rfl rfl rfl (by first | (simp [go_sem]; done) | (simp [go_sem]; rfl)) rfl rfl (by simp) ?_; clear hE; intro w hE; simp only [Act.eval, getD_lit, List.getD_cons_succ, List.getD_cons_zero, List.set_cons_zero, List.set_cons_succ] at hE)
          | ((with_reducible (show Go.wpList _ _ _ (Go.Oper.mk _ (.load 30 _) _ _ _ _ :: _) _ _)); refine wpl_loadW hE 1 rfl rfl rfl rfl Tryd.isAgg30 Tryd.sizeOf30 rfl ?_)
          | ((with_reducible (show Go.wpList _ _ _ (Go.Oper.mk _ (.load 30 _) _ _ _ _ :: _) _ _)); refine wpl_loadW hE 2 rfl rfl rfl rfl Tryd.isAgg30 Tryd.sizeOf30 rfl ?_)
          | (go_at_call 11; refine (sPut_ok la Hsq.out Hlen.out (ht.cons.cons.cons) hE).mono ?_; clear hE; rintro e w6 ⟨v, rfl, ap, cp, rfl, hE⟩)
          | (go_at_call 55; have H := Err_any (hE.front 1 rfl); refine H.mono ?_; clear H; rintro e w7 ⟨rfl, rfl⟩)
          | (go_at_call 56; have H := Equal_any (reads_row hE 0 rfl) (hk _ hE.tail.tail.tail.tail); rw [Hq.out] at H; refine H.mono ?_; clear H; rintro e w7 ⟨rfl, rfl⟩)
          | (refine wpl_storeW hE 3 rfl rfl rfl (xs := [.int .u64 0, .bool false, .string ⟨#[]⟩]) rfl rfl Tryd.sizeOf30 rfl (by simp [Value.oneCell']) rfl ?_; clear hE; intro w hE; simp only [List.set_cons_zero, List.set_cons_succ] at hE))
        refine bodyPost_ret (results_cell2 rfl hE 3 rfl rfl Tryd.isAgg30 Tryd.sizeOf30 rfl rfl) rfl ?_
        rw [Hres.out, HresE.out, Hf.out]
        exact ⟨_, rfl, rfl, hE.tail.tail.tail.tail⟩
    · have Hf := SL.hid (show ok = false by rw [Hok.out]; simp [hlen])
      have Hlen := SL.hid (show 497 < tt.length by omega)
      clear hlen he
      go_enter Tryd.func14, Tryd.ntmps14
      go_wp2_with (first
        | go_skip
        | ((with_reducible (show Go.wpList _ _ _ (Go.Oper.mk _ (.alloc _) _ _ _ _ :: _) _ _)); refine wpl_alloc hE rfl rfl (by simp [go_sem]; rfl) ?_; clear hE; intro b w hE; simp only [Act.eval, Act.put, List.setIfInBounds_toArray, List.set_cons_zero, List.set_cons_succ, getD_lit, List.getD_cons_succ, List.getD_cons_zero, Value.cells] at hE)
        | (go_at_call 52; have H := Of_any hE hk.cons (by omega); refine H.mono ?_; clear H hE; rintro e w2 ⟨v, rfl, o, rfl, hE⟩)
        | (go_at_call 53; have H := hT8 hE; refine H.mono ?_; clear H hE; rintro e w2 ⟨v, rfl, rfl, hE⟩; clear hT8)
        | (go_at_call 53; have H := hT1 hE; refine H.mono ?_; clear H hE; rintro e w2 ⟨v, rfl, rfl, hE⟩; clear hT1)
        | ((with_reducible (show Go.wpList _ _ _ (Go.Oper.mk _ (.store 30 (.tmp 5) _) _ _ _ _ :: _) _ _)); refine wpl_storeW hE 0 rfl rfl rfl (xs := [.int .u64 sq, .bool la, .string ⟨#[]⟩]) rfl rfl Tryd.sizeOf30 rfl (by simp [Value.oneCell']) rfl ?_; clear hE; intro w hE; simp only [List.set_cons_zero, List.set_cons_succ] at hE)
        | (go_at_call 53; have H := hT2 (hE.front 1 rfl); refine H.mono ?_; clear H hE; rintro e w2 ⟨v, rfl, rfl, hE⟩; simp only [List.eraseIdx_cons_succ, List.eraseIdx_cons_zero] at hE; clear hT2)
        | (go_at_call 54; have H := hX hE; refine H.mono ?_; clear H hE; rintro e w2 ⟨v, rfl, rfl, hE⟩; clear hX)
        | ((with_reducible (show Go.wpList _ _ _ (Go.Oper.mk _ (.store 9 _ _) _ _ _ _ :: _) _ _)); refine wpl_st1 hE 1 rfl rfl rfl rfl rfl (by first | (simp [go_sem]; done) | (simp [go_sem]; rfl)) rfl rfl (by simp) ?_; clear hE; intro w hE; simp only [Act.eval, getD_lit, List.getD_cons_succ, List.getD_cons_zero, List.set_cons_zero, List.set_cons_succ] at hE)
        | ((with_reducible (show Go.wpList _ _ _ (Go.Oper.mk _ (.load 30 _) _ _ _ _ :: _) _ _)); refine wpl_loadW hE 1 rfl rfl rfl rfl Tryd.isAgg30 Tryd.sizeOf30 rfl ?_)
        | ((with_reducible (show Go.wpList _ _ _ (Go.Oper.mk _ (.load 30 _) _ _ _ _ :: _) _ _)); refine wpl_loadW hE 1 rfl rfl rfl rfl Tryd.isAgg30 Tryd.sizeOf30 rfl ?_)
        | (go_at_call 11; refine (sPut_long Hlen.out hE).mono ?_; clear hE; rintro e w6 ⟨v, rfl, rfl, hE⟩)
        | (go_at_call 55; have H := Err_any (hE.front 0 rfl); refine H.mono ?_; clear H; rintro e w7 ⟨rfl, rfl⟩)
        | (go_at_call 56; have H := Equal_any (reads_row hE 0 rfl) (hk _ hE.tail.tail.tail.tail); rw [Hq.out] at H; refine H.mono ?_; clear H; rintro e w7 ⟨rfl, rfl⟩)
        | (refine wpl_storeW hE 2 rfl rfl rfl (xs := [.int .u64 0, .bool false, .string ⟨#[]⟩]) rfl rfl Tryd.sizeOf30 rfl (by simp [Value.oneCell']) rfl ?_; clear hE; intro w hE; simp only [List.set_cons_zero, List.set_cons_succ] at hE))
      refine bodyPost_ret (results_cell2 rfl hE 2 rfl rfl Tryd.isAgg30 Tryd.sizeOf30 rfl rfl) rfl ?_
      rw [Hres.out, HresE.out, Hf.out]
      exact ⟨_, rfl, rfl, hE.tail.tail.tail⟩
  | false =>
    have Hf := SL.hid (show ok = false by rw [Hok.out, he]; rfl)
    have he' : (e4 != 0) = true := by simp only [bne, he]; rfl
    by_cases hlen : tt.length ≤ 497
    · have Hlen := SL.hid hlen
      clear hlen
      go_enter Tryd.func14, Tryd.ntmps14
      go_wp2_with (first
        | go_skip
        | ((with_reducible (show Go.wpList _ _ _ (Go.Oper.mk _ (.alloc _) _ _ _ _ :: _) _ _)); refine wpl_alloc hE rfl rfl (by simp [go_sem]; rfl) ?_; clear hE; intro b w hE; simp only [Act.eval, Act.put, List.setIfInBounds_toArray, List.set_cons_zero, List.set_cons_succ, getD_lit, List.getD_cons_succ, List.getD_cons_zero, Value.cells] at hE)
        | (go_at_call 52; have H := Of_any hE hk.cons (by omega); refine H.mono ?_; clear H hE; rintro e w2 ⟨v, rfl, o, rfl, hE⟩)
        | (go_at_call 53; have H := hT8 hE; refine H.mono ?_; clear H hE; rintro e w2 ⟨v, rfl, rfl, hE⟩; clear hT8)
        | (go_at_call 53; have H := hT1 hE; refine H.mono ?_; clear H hE; rintro e w2 ⟨v, rfl, rfl, hE⟩; clear hT1)
        | ((with_reducible (show Go.wpList _ _ _ (Go.Oper.mk _ (.store 30 (.tmp 5) _) _ _ _ _ :: _) _ _)); refine wpl_storeW hE 0 rfl rfl rfl (xs := [.int .u64 sq, .bool la, .string ⟨#[]⟩]) rfl rfl Tryd.sizeOf30 rfl (by simp [Value.oneCell']) rfl ?_; clear hE; intro w hE; simp only [List.set_cons_zero, List.set_cons_succ] at hE)
        | (go_at_call 53; have H := hT2 (hE.front 1 rfl); refine H.mono ?_; clear H hE; rintro e w2 ⟨v, rfl, rfl, hE⟩; simp only [List.eraseIdx_cons_succ, List.eraseIdx_cons_zero] at hE; clear hT2)
        | (go_at_call 54; have H := hX hE; refine H.mono ?_; clear H hE; rintro e w2 ⟨v, rfl, rfl, hE⟩; clear hX)
        | ((with_reducible (show Go.wpList _ _ _ (Go.Oper.mk _ (.store 9 _ _) _ _ _ _ :: _) _ _)); refine wpl_st1 hE 1 rfl rfl rfl rfl rfl (by first | (simp [go_sem]; done) | (simp [go_sem]; rfl)) rfl rfl (by simp) ?_; clear hE; intro w hE; simp only [Act.eval, getD_lit, List.getD_cons_succ, List.getD_cons_zero, List.set_cons_zero, List.set_cons_succ] at hE)
        | ((with_reducible (show Go.wpList _ _ _ (Go.Oper.mk _ (.load 30 _) _ _ _ _ :: _) _ _)); refine wpl_loadW hE 1 rfl rfl rfl rfl Tryd.isAgg30 Tryd.sizeOf30 rfl ?_)
        | ((with_reducible (show Go.wpList _ _ _ (Go.Oper.mk _ (.load 30 _) _ _ _ _ :: _) _ _)); refine wpl_loadW hE 2 rfl rfl rfl rfl Tryd.isAgg30 Tryd.sizeOf30 rfl ?_)
        | (go_at_call 11; refine (sPut_ok la Hsq.out Hlen.out (ht.cons.cons.cons) hE).mono ?_; clear hE; rintro e w6 ⟨v, rfl, ap, cp, rfl, hE⟩)
        | (go_at_call 55; have H := Err_any (hE.front 1 rfl); refine H.mono ?_; clear H; rintro e w7 ⟨rfl, rfl⟩)
        | (go_at_call 56; have H := Equal_any (reads_row hE 0 rfl) (hk _ hE.tail.tail.tail.tail); rw [Hq.out] at H; refine H.mono ?_; clear H; rintro e w7 ⟨rfl, rfl⟩)
        | (refine wpl_storeW hE 3 rfl rfl rfl (xs := [.int .u64 0, .bool false, .string ⟨#[]⟩]) rfl rfl Tryd.sizeOf30 rfl (by simp [Value.oneCell']) rfl ?_; clear hE; intro w hE; simp only [List.set_cons_zero, List.set_cons_succ] at hE))
      refine bodyPost_ret (results_cell2 rfl hE 3 rfl rfl Tryd.isAgg30 Tryd.sizeOf30 rfl rfl) rfl ?_
      rw [Hres.out, HresE.out, Hf.out]
      exact ⟨_, rfl, rfl, hE.tail.tail.tail.tail⟩
    · have Hlen := SL.hid (show 497 < tt.length by omega)
      clear hlen
      go_enter Tryd.func14, Tryd.ntmps14
      go_wp2_with (first
        | go_skip
        | ((with_reducible (show Go.wpList _ _ _ (Go.Oper.mk _ (.alloc _) _ _ _ _ :: _) _ _)); refine wpl_alloc hE rfl rfl (by simp [go_sem]; rfl) ?_; clear hE; intro b w hE; simp only [Act.eval, Act.put, List.setIfInBounds_toArray, List.set_cons_zero, List.set_cons_succ, getD_lit, List.getD_cons_succ, List.getD_cons_zero, Value.cells] at hE)
        | (go_at_call 52; have H := Of_any hE hk.cons (by omega); refine H.mono ?_; clear H hE; rintro e w2 ⟨v, rfl, o, rfl, hE⟩)
        | (go_at_call 53; have H := hT8 hE; refine H.mono ?_; clear H hE; rintro e w2 ⟨v, rfl, rfl, hE⟩; clear hT8)
        | (go_at_call 53; have H := hT1 hE; refine H.mono ?_; clear H hE; rintro e w2 ⟨v, rfl, rfl, hE⟩; clear hT1)
        | ((with_reducible (show Go.wpList _ _ _ (Go.Oper.mk _ (.store 30 (.tmp 5) _) _ _ _ _ :: _) _ _)); refine wpl_storeW hE 0 rfl rfl rfl (xs := [.int .u64 sq, .bool la, .string ⟨#[]⟩]) rfl rfl Tryd.sizeOf30 rfl (by simp [Value.oneCell']) rfl ?_; clear hE; intro w hE; simp only [List.set_cons_zero, List.set_cons_succ] at hE)
        | (go_at_call 53; have H := hT2 (hE.front 1 rfl); refine H.mono ?_; clear H hE; rintro e w2 ⟨v, rfl, rfl, hE⟩; simp only [List.eraseIdx_cons_succ, List.eraseIdx_cons_zero] at hE; clear hT2)
        | (go_at_call 54; have H := hX hE; refine H.mono ?_; clear H hE; rintro e w2 ⟨v, rfl, rfl, hE⟩; clear hX)
        | ((with_reducible (show Go.wpList _ _ _ (Go.Oper.mk _ (.store 9 _ _) _ _ _ _ :: _) _ _)); refine wpl_st1 hE 1 rfl rfl rfl rfl rfl (by first | (simp [go_sem]; done) | (simp [go_sem]; rfl)) rfl rfl (by simp) ?_; clear hE; intro w hE; simp only [Act.eval, getD_lit, List.getD_cons_succ, List.getD_cons_zero, List.set_cons_zero, List.set_cons_succ] at hE)
        | ((with_reducible (show Go.wpList _ _ _ (Go.Oper.mk _ (.load 30 _) _ _ _ _ :: _) _ _)); refine wpl_loadW hE 1 rfl rfl rfl rfl Tryd.isAgg30 Tryd.sizeOf30 rfl ?_)
        | ((with_reducible (show Go.wpList _ _ _ (Go.Oper.mk _ (.load 30 _) _ _ _ _ :: _) _ _)); refine wpl_loadW hE 1 rfl rfl rfl rfl Tryd.isAgg30 Tryd.sizeOf30 rfl ?_)
        | (go_at_call 11; refine (sPut_long Hlen.out hE).mono ?_; clear hE; rintro e w6 ⟨v, rfl, rfl, hE⟩)
        | (go_at_call 55; have H := Err_any (hE.front 0 rfl); refine H.mono ?_; clear H; rintro e w7 ⟨rfl, rfl⟩)
        | (go_at_call 56; have H := Equal_any (reads_row hE 0 rfl) (hk _ hE.tail.tail.tail.tail); rw [Hq.out] at H; refine H.mono ?_; clear H; rintro e w7 ⟨rfl, rfl⟩)
        | (refine wpl_storeW hE 2 rfl rfl rfl (xs := [.int .u64 0, .bool false, .string ⟨#[]⟩]) rfl rfl Tryd.sizeOf30 rfl (by simp [Value.oneCell']) rfl ?_; clear hE; intro w hE; simp only [List.set_cons_zero, List.set_cons_succ] at hE))
      refine bodyPost_ret (results_cell2 rfl hE 2 rfl rfl Tryd.isAgg30 Tryd.sizeOf30 rfl rfl) rfl ?_
      rw [Hres.out, HresE.out, Hf.out]
      exact ⟨_, rfl, rfl, hE.tail.tail.tail⟩
end Go.Proofs.YtdpfigkjkjjedaaDoor
namespace Go.Proofs.YtdpfigkjkjjedaaDoor
open Go.RowKit Go.SL

def hdZ : Hd := ⟨0, 0, 0⟩
def resH (b : List UInt8) : Hd := if hrOk b then hrS b else hdZ
def resHE (b : List UInt8) : Int := if hrOk b then 0 else 3
theorem beVal4_lt (l : List UInt8) : beVal (l.take 4) < 4294967296 := by
  rcases l with _ | ⟨a, _ | ⟨b, _ | ⟨c, _ | ⟨d, r⟩⟩⟩⟩
  · simp [beVal]
  · have := a.toNat_lt; simp only [beVal, List.take, List.foldl_cons, List.foldl_nil]; omega
  · have := a.toNat_lt; have := b.toNat_lt; simp only [beVal, List.take, List.foldl_cons, List.foldl_nil]; omega
  · have := a.toNat_lt; have := b.toNat_lt; have := c.toNat_lt; simp only [beVal, List.take, List.foldl_cons, List.foldl_nil]; omega
  · have := a.toNat_lt; have := b.toNat_lt; have := c.toNat_lt; have := d.toNat_lt; simp only [beVal, List.take, List.foldl_cons, List.foldl_nil]; omega
theorem tkV4_lt (s : St) : tkV 4 s < 4294967296 := by
  unfold tkV valT
  split
  · exact beVal4_lt s.bs
  · omega

set_option maxRecDepth 100000 in
set_option maxHeartbeats 4000000 in
theorem hTake_any {b : List UInt8} {ao : Option Addr} {c : Nat} (hb : b.length ≤ 1000000) {l : List HProp} {w : World} (ht : Knows l Table) (hk : Knows l (reads (.slice ao b.length c) b.length (bvals b))) (hE : Ent l w) :
    Calls Tryd.prog 24 #[.slice ao b.length c] w (Ret fun v w' => v = .tuple #[hdV (resH b), .int .i64 (resHE b)] ∧ Ent l w') := by
  have l1 : (hr1 b).bs.length ≤ b.length := tx_len _ _
  have l2 : (hr2 b).bs.length ≤ (hr1 b).bs.length := tk_len _ _
  have l3 : (hr3 b).bs.length ≤ (hr2 b).bs.length := tk_len _ _
  have hX : ∀ {l : List HProp} {w : World} {o : Nat}, Ent (opener o b 0 :: l) w → Calls Tryd.prog 54 #[.pointer (some ⟨o, 0, none⟩), .int .i64 4] w (Ret fun v w' => v = .string ⟨(txV 4 ⟨b, 0⟩).toArray⟩ ∧ Ent (opener o (hr1 b).bs (hr1 b).err :: l) w') := fun h => sText (s := ⟨b, 0⟩) h (by show b.length ≤ _; omega) _
  have hT1 : ∀ {l : List HProp} {w : World} {o : Nat}, Ent (opener o (hr1 b).bs (hr1 b).err :: l) w → Calls Tryd.prog 53 #[.pointer (some ⟨o, 0, none⟩), .int .i64 2] w (Ret fun v w' => v = .int .u64 (tkV 2 (hr1 b)) ∧ Ent (opener o (hr2 b).bs (hr2 b).err :: l) w') := fun h => sTake (s := hr1 b) h (by omega) 2
  have hT2 : ∀ {l : List HProp} {w : World} {o : Nat}, Ent (opener o (hr2 b).bs (hr2 b).err :: l) w → Calls Tryd.prog 53 #[.pointer (some ⟨o, 0, none⟩), .int .i64 2] w (Ret fun v w' => v = .int .u64 (tkV 2 (hr2 b)) ∧ Ent (opener o (hr3 b).bs (hr3 b).err :: l) w') := fun h => sTake (s := hr2 b) h (by omega) 2
  have hT4 : ∀ {l : List HProp} {w : World} {o : Nat}, Ent (opener o (hr3 b).bs (hr3 b).err :: l) w → Calls Tryd.prog 53 #[.pointer (some ⟨o, 0, none⟩), .int .i64 4] w (Ret fun v w' => v = .int .u64 (tkV 4 (hr3 b)) ∧ Ent (opener o (hr4 b).bs (hr4 b).err :: l) w') := fun h => sTake (s := hr3 b) h (by omega) 4
  have Hb := SL.hid (tkV2_lt (hr1 b))
  have Hu := SL.hid (tkV2_lt (hr2 b))
  have Hs := SL.hid (tkV4_lt (hr3 b))
  have Hok := SL.hid (show hrOk b = ((hr4 b).err == 0 && (decide ((hrS b).used ≤ 2048) && (hdP (hrS b).box (hrS b).used (hrS b).sum == b))) from rfl)
  have Hres := SL.hid (show resH b = if hrOk b then hrS b else hdZ from rfl)
  have HresE := SL.hid (show resHE b = if hrOk b then 0 else 3 from rfl)
  have He := SL.hid (show hrS b = ⟨tkV 2 (hr1 b), tkV 2 (hr2 b), tkV 4 (hr3 b)⟩ from rfl)
  rw [He.out] at Hok
  simp only at Hok
  clear l1 l2 l3
  generalize txV 4 ⟨b, 0⟩ = mg at *
  generalize tkV 2 (hr1 b) = bx at *
  generalize tkV 2 (hr2 b) = us at *
  generalize tkV 4 (hr3 b) = su at *
  generalize (hr1 b) = s1 at *
  generalize (hr2 b) = s2 at *
  generalize (hr3 b) = s3 at *
  generalize (hr4 b) = s4 at *
  generalize hrOk b = ok at *
  have hw1 : IntKind.i64.wrap ((bx : Nat) : Int) = ((bx : Nat) : Int) := wrap_id (by have := Hb.out; omega)
  have hw2 : IntKind.i64.wrap ((us : Nat) : Int) = ((us : Nat) : Int) := wrap_id (by have := Hu.out; omega)
  have hw3 : IntKind.u32.wrap ((su : Nat) : Int) = ((su : Nat) : Int) := by
    have := Hs.out
    simp only [IntKind.wrap, IntKind.bits, IntKind.signed]
    simp
    omega
  obtain ⟨b4, e4⟩ := s4
  simp only at hT4 Hok
  cases he : (e4 == 0) with
  | true =>
    have he0 : e4 = 0 := by simpa using he
    subst he0
    cases hu : decide ((2048 : Int) < (us : Int)) with
    | false =>
      have hlen : us ≤ 2048 := by have := of_decide_eq_false hu; omega
      cases hq : (hdP bx us su == b) with
      | true =>
        have Hf := SL.hid (show ok = true by rw [Hok.out, hq]; simp [hlen])
        have Hq := SL.hid hq
        clear hq hlen he
        go_enter Tryd.func24, Tryd.ntmps24
        go_wp2_with (first
          | go_skip
          | ((with_reducible (show Go.wpList _ _ _ (Go.Oper.mk _ (.alloc _) _ _ _ _ :: _) _ _)); refine wpl_alloc hE rfl rfl (by simp [go_sem]; rfl) ?_; clear hE; intro b w hE; simp only [Act.eval, Act.put, List.setIfInBounds_toArray, List.set_cons_zero, List.set_cons_succ, getD_lit, List.getD_cons_succ, List.getD_cons_zero, Value.cells] at hE)
          | (go_at_call 52; have H := Of_any hE hk.cons (by omega); refine H.mono ?_; clear H hE; rintro e w2 ⟨v, rfl, o, rfl, hE⟩)
          | (go_at_call 54; have H := hX hE; refine H.mono ?_; clear H hE; rintro e w2 ⟨v, rfl, rfl, hE⟩; clear hX)
          | (go_at_call 53; have H := hT1 hE; refine H.mono ?_; clear H hE; rintro e w2 ⟨v, rfl, rfl, hE⟩; clear hT1)
          | (go_at_call 53; have H := hT2 hE; refine H.mono ?_; clear H hE; rintro e w2 ⟨v, rfl, rfl, hE⟩; clear hT2)
          | (go_at_call 53; have H := hT4 hE; refine H.mono ?_; clear H hE; rintro e w2 ⟨v, rfl, rfl, hE⟩; clear hT4)
          | ((with_reducible (show Go.wpList _ _ _ (Go.Oper.mk _ (.store 55 (.tmp 5) _) _ _ _ _ :: _) _ _)); refine wpl_storeW hE 0 rfl rfl rfl (xs := [.int .i64 bx, .int .i64 us, .int .u32 su]) rfl rfl Tryd.sizeOf55 rfl (by simp [Value.oneCell']) rfl ?_; clear hE; intro w hE; simp only [List.set_cons_zero, List.set_cons_succ] at hE)
          | ((with_reducible (show Go.wpList _ _ _ (Go.Oper.mk _ (.load 55 _) _ _ _ _ :: _) _ _)); (first | (refine wpl_loadW hE 0 rfl rfl rfl rfl Tryd.isAgg55 Tryd.sizeOf55 rfl ?_) | (refine wpl_loadW hE 1 rfl rfl rfl rfl Tryd.isAgg55 Tryd.sizeOf55 rfl ?_) | (refine wpl_loadW hE 2 rfl rfl rfl rfl Tryd.isAgg55 Tryd.sizeOf55 rfl ?_) | (refine wpl_loadW hE 3 rfl rfl rfl rfl Tryd.isAgg55 Tryd.sizeOf55 rfl ?_) | (refine wpl_loadW hE 4 rfl rfl rfl rfl Tryd.isAgg55 Tryd.sizeOf55 rfl ?_) | (refine wpl_loadW hE 5 rfl rfl rfl rfl Tryd.isAgg55 Tryd.sizeOf55 rfl ?_) | (refine wpl_loadW hE 6 rfl rfl rfl rfl Tryd.isAgg55 Tryd.sizeOf55 rfl ?_) | (refine wpl_loadW hE 7 rfl rfl rfl rfl Tryd.isAgg55 Tryd.sizeOf55 rfl ?_)))
          | ((with_reducible (show Go.wpList _ _ _ (Go.Oper.mk _ (.load _ _) _ _ _ _ :: _) _ _)); (first | (refine wpl_load1 hE 0 rfl rfl rfl rfl (by simp [go_sem]) rfl ?_) | (refine wpl_load1 hE 1 rfl rfl rfl rfl (by simp [go_sem]) rfl ?_) | (refine wpl_load1 hE 2 rfl rfl rfl rfl (by simp [go_sem]) rfl ?_) | (refine wpl_load1 hE 3 rfl rfl rfl rfl (by simp [go_sem]) rfl ?_) | (refine wpl_load1 hE 4 rfl rfl rfl rfl (by simp [go_sem]) rfl ?_) | (refine wpl_load1 hE 5 rfl rfl rfl rfl (by simp [go_sem]) rfl ?_) | (refine wpl_load1 hE 6 rfl rfl rfl rfl (by simp [go_sem]) rfl ?_) | (refine wpl_load1 hE 7 rfl rfl rfl rfl (by simp [go_sem]) rfl ?_)))
          | (go_at_call 62; refine (hPut_any Hb.out Hu.out Hs.out (ht.cons.cons.cons) hE).mono ?_; clear hE; rintro e w6 ⟨v, rfl, ap, cp, rfl, hE⟩)
          | (go_at_call 55; have H := Err_any (hE.front 1 rfl); refine H.mono ?_; clear H; rintro e w7 ⟨rfl, rfl⟩)
          | (go_at_call 56; have H := Equal_any (reads_row hE 0 rfl) (hk _ hE.tail.tail.tail.tail); rw [Hq.out] at H; refine H.mono ?_; clear H; rintro e w7 ⟨rfl, rfl⟩)
          | (refine wpl_storeW hE 3 rfl rfl rfl (xs := [.int .i64 bx, .int .i64 us, .int .u32 su]) rfl rfl Tryd.sizeOf55 rfl (by simp [Value.oneCell']) rfl ?_; clear hE; intro w hE; simp only [List.set_cons_zero, List.set_cons_succ] at hE))
        refine bodyPost_ret (results_cell2 rfl hE 3 rfl rfl Tryd.isAgg55 Tryd.sizeOf55 rfl rfl) rfl ?_
        rw [Hres.out, HresE.out, Hf.out]
        exact ⟨_, rfl, by rw [if_pos rfl, if_pos rfl, He.out]; rfl, hE.tail.tail.tail.tail⟩
      | false =>
        have Hf := SL.hid (show ok = false by rw [Hok.out, hq]; simp)
        have Hq := SL.hid hq
        clear hq hlen he
        go_enter Tryd.func24, Tryd.ntmps24
        go_wp2_with (first
          | go_skip
          | ((with_reducible (show Go.wpList _ _ _ (Go.Oper.mk _ (.alloc _) _ _ _ _ :: _) _ _)); refine wpl_alloc hE rfl rfl (by simp [go_sem]; rfl) ?_; clear hE; intro b w hE; simp only [Act.eval, Act.put, List.setIfInBounds_toArray, List.set_cons_zero, List.set_cons_succ, getD_lit, List.getD_cons_succ, List.getD_cons_zero, Value.cells] at hE)
          | (go_at_call 52; have H := Of_any hE hk.cons (by omega); refine H.mono ?_; clear H hE; rintro e w2 ⟨v, rfl, o, rfl, hE⟩)
          | (go_at_call 54; have H := hX hE; refine H.mono ?_; clear H hE; rintro e w2 ⟨v, rfl, rfl, hE⟩; clear hX)
          | (go_at_call 53; have H := hT1 hE; refine H.mono ?_; clear H hE; rintro e w2 ⟨v, rfl, rfl, hE⟩; clear hT1)
          | (go_at_call 53; have H := hT2 hE; refine H.mono ?_; clear H hE; rintro e w2 ⟨v, rfl, rfl, hE⟩; clear hT2)
          | (go_at_call 53; have H := hT4 hE; refine H.mono ?_; clear H hE; rintro e w2 ⟨v, rfl, rfl, hE⟩; clear hT4)
          | ((with_reducible (show Go.wpList _ _ _ (Go.Oper.mk _ (.store 55 (.tmp 5) _) _ _ _ _ :: _) _ _)); refine wpl_storeW hE 0 rfl rfl rfl (xs := [.int .i64 bx, .int .i64 us, .int .u32 su]) rfl rfl Tryd.sizeOf55 rfl (by simp [Value.oneCell']) rfl ?_; clear hE; intro w hE; simp only [List.set_cons_zero, List.set_cons_succ] at hE)
          | ((with_reducible (show Go.wpList _ _ _ (Go.Oper.mk _ (.load 55 _) _ _ _ _ :: _) _ _)); (first | (refine wpl_loadW hE 0 rfl rfl rfl rfl Tryd.isAgg55 Tryd.sizeOf55 rfl ?_) | (refine wpl_loadW hE 1 rfl rfl rfl rfl Tryd.isAgg55 Tryd.sizeOf55 rfl ?_) | (refine wpl_loadW hE 2 rfl rfl rfl rfl Tryd.isAgg55 Tryd.sizeOf55 rfl ?_) | (refine wpl_loadW hE 3 rfl rfl rfl rfl Tryd.isAgg55 Tryd.sizeOf55 rfl ?_) | (refine wpl_loadW hE 4 rfl rfl rfl rfl Tryd.isAgg55 Tryd.sizeOf55 rfl ?_) | (refine wpl_loadW hE 5 rfl rfl rfl rfl Tryd.isAgg55 Tryd.sizeOf55 rfl ?_) | (refine wpl_loadW hE 6 rfl rfl rfl rfl Tryd.isAgg55 Tryd.sizeOf55 rfl ?_) | (refine wpl_loadW hE 7 rfl rfl rfl rfl Tryd.isAgg55 Tryd.sizeOf55 rfl ?_)))
          | ((with_reducible (show Go.wpList _ _ _ (Go.Oper.mk _ (.load _ _) _ _ _ _ :: _) _ _)); (first | (refine wpl_load1 hE 0 rfl rfl rfl rfl (by simp [go_sem]) rfl ?_) | (refine wpl_load1 hE 1 rfl rfl rfl rfl (by simp [go_sem]) rfl ?_) | (refine wpl_load1 hE 2 rfl rfl rfl rfl (by simp [go_sem]) rfl ?_) | (refine wpl_load1 hE 3 rfl rfl rfl rfl (by simp [go_sem]) rfl ?_) | (refine wpl_load1 hE 4 rfl rfl rfl rfl (by simp [go_sem]) rfl ?_) | (refine wpl_load1 hE 5 rfl rfl rfl rfl (by simp [go_sem]) rfl ?_) | (refine wpl_load1 hE 6 rfl rfl rfl rfl (by simp [go_sem]) rfl ?_) | (refine wpl_load1 hE 7 rfl rfl rfl rfl (by simp [go_sem]) rfl ?_)))
          | (go_at_call 62; refine (hPut_any Hb.out Hu.out Hs.out (ht.cons.cons.cons) hE).mono ?_; clear hE; rintro e w6 ⟨v, rfl, ap, cp, rfl, hE⟩)
          | (go_at_call 55; have H := Err_any (hE.front 1 rfl); refine H.mono ?_; clear H; rintro e w7 ⟨rfl, rfl⟩)
          | (go_at_call 56; have H := Equal_any (reads_row hE 0 rfl) (hk _ hE.tail.tail.tail.tail); rw [Hq.out] at H; refine H.mono ?_; clear H; rintro e w7 ⟨rfl, rfl⟩)
          | (refine wpl_storeW hE 3 rfl rfl rfl (xs := [.int .i64 0, .int .i64 0, .int .u32 0]) rfl rfl Tryd.sizeOf55 rfl (by simp [Value.oneCell']) rfl ?_; clear hE; intro w hE; simp only [List.set_cons_zero, List.set_cons_succ] at hE))
        refine bodyPost_ret (results_cell2 rfl hE 3 rfl rfl Tryd.isAgg55 Tryd.sizeOf55 rfl rfl) rfl ?_
        rw [Hres.out, HresE.out, Hf.out]
        exact ⟨_, rfl, rfl, hE.tail.tail.tail.tail⟩
    | true =>
      have Hf := SL.hid (show ok = false by have := of_decide_eq_true hu; rw [Hok.out, show decide (us ≤ 2048) = false from decide_eq_false (by omega)]; simp)
      clear he
      go_enter Tryd.func24, Tryd.ntmps24
      go_wp2_with (first
        | go_skip
        | ((with_reducible (show Go.wpList _ _ _ (Go.Oper.mk _ (.alloc _) _ _ _ _ :: _) _ _)); refine wpl_alloc hE rfl rfl (by simp [go_sem]; rfl) ?_; clear hE; intro b w hE; simp only [Act.eval, Act.put, List.setIfInBounds_toArray, List.set_cons_zero, List.set_cons_succ, getD_lit, List.getD_cons_succ, List.getD_cons_zero, Value.cells] at hE)
        | (go_at_call 52; have H := Of_any hE hk.cons (by omega); refine H.mono ?_; clear H hE; rintro e w2 ⟨v, rfl, o, rfl, hE⟩)
        | (go_at_call 54; have H := hX hE; refine H.mono ?_; clear H hE; rintro e w2 ⟨v, rfl, rfl, hE⟩; clear hX)
        | (go_at_call 53; have H := hT1 hE; refine H.mono ?_; clear H hE; rintro e w2 ⟨v, rfl, rfl, hE⟩; clear hT1)
        | (go_at_call 53; have H := hT2 hE; refine H.mono ?_; clear H hE; rintro e w2 ⟨v, rfl, rfl, hE⟩; clear hT2)
        | (go_at_call 53; have H := hT4 hE; refine H.mono ?_; clear H hE; rintro e w2 ⟨v, rfl, rfl, hE⟩; clear hT4)
        | ((with_reducible (show Go.wpList _ _ _ (Go.Oper.mk _ (.store 55 (.tmp 5) _) _ _ _ _ :: _) _ _)); refine wpl_storeW hE 0 rfl rfl rfl (xs := [.int .i64 bx, .int .i64 us, .int .u32 su]) rfl rfl Tryd.sizeOf55 rfl (by simp [Value.oneCell']) rfl ?_; clear hE; intro w hE; simp only [List.set_cons_zero, List.set_cons_succ] at hE)
        | ((with_reducible (show Go.wpList _ _ _ (Go.Oper.mk _ (.load 55 _) _ _ _ _ :: _) _ _)); (first | (refine wpl_loadW hE 0 rfl rfl rfl rfl Tryd.isAgg55 Tryd.sizeOf55 rfl ?_) | (refine wpl_loadW hE 1 rfl rfl rfl rfl Tryd.isAgg55 Tryd.sizeOf55 rfl ?_) | (refine wpl_loadW hE 2 rfl rfl rfl rfl Tryd.isAgg55 Tryd.sizeOf55 rfl ?_) | (refine wpl_loadW hE 3 rfl rfl rfl rfl Tryd.isAgg55 Tryd.sizeOf55 rfl ?_) | (refine wpl_loadW hE 4 rfl rfl rfl rfl Tryd.isAgg55 Tryd.sizeOf55 rfl ?_) | (refine wpl_loadW hE 5 rfl rfl rfl rfl Tryd.isAgg55 Tryd.sizeOf55 rfl ?_) | (refine wpl_loadW hE 6 rfl rfl rfl rfl Tryd.isAgg55 Tryd.sizeOf55 rfl ?_) | (refine wpl_loadW hE 7 rfl rfl rfl rfl Tryd.isAgg55 Tryd.sizeOf55 rfl ?_)))
        | ((with_reducible (show Go.wpList _ _ _ (Go.Oper.mk _ (.load _ _) _ _ _ _ :: _) _ _)); (first | (refine wpl_load1 hE 0 rfl rfl rfl rfl (by simp [go_sem]) rfl ?_) | (refine wpl_load1 hE 1 rfl rfl rfl rfl (by simp [go_sem]) rfl ?_) | (refine wpl_load1 hE 2 rfl rfl rfl rfl (by simp [go_sem]) rfl ?_) | (refine wpl_load1 hE 3 rfl rfl rfl rfl (by simp [go_sem]) rfl ?_) | (refine wpl_load1 hE 4 rfl rfl rfl rfl (by simp [go_sem]) rfl ?_) | (refine wpl_load1 hE 5 rfl rfl rfl rfl (by simp [go_sem]) rfl ?_) | (refine wpl_load1 hE 6 rfl rfl rfl rfl (by simp [go_sem]) rfl ?_) | (refine wpl_load1 hE 7 rfl rfl rfl rfl (by simp [go_sem]) rfl ?_)))
        | fail
        | (go_at_call 55; have H := Err_any (hE.front 1 rfl); refine H.mono ?_; clear H; rintro e w7 ⟨rfl, rfl⟩)
        | (go_at_call 56; have H := Equal_any (reads_row hE 0 rfl) (hk _ hE.tail.tail.tail.tail); rw [Hq.out] at H; refine H.mono ?_; clear H; rintro e w7 ⟨rfl, rfl⟩)
        | (refine wpl_storeW hE 2 rfl rfl rfl (xs := [.int .i64 0, .int .i64 0, .int .u32 0]) rfl rfl Tryd.sizeOf55 rfl (by simp [Value.oneCell']) rfl ?_; clear hE; intro w hE; simp only [List.set_cons_zero, List.set_cons_succ] at hE))
      refine bodyPost_ret (results_cell2 rfl hE 2 rfl rfl Tryd.isAgg55 Tryd.sizeOf55 rfl rfl) rfl ?_
      rw [Hres.out, HresE.out, Hf.out]
      exact ⟨_, rfl, rfl, hE.tail.tail.tail⟩
  | false =>
    have Hf := SL.hid (show ok = false by rw [Hok.out, he]; rfl)
    have he' : (e4 != 0) = true := by simp only [bne, he]; rfl
    go_enter Tryd.func24, Tryd.ntmps24
    go_wp2_with (first
      | go_skip
      | ((with_reducible (show Go.wpList _ _ _ (Go.Oper.mk _ (.alloc _) _ _ _ _ :: _) _ _)); refine wpl_alloc hE rfl rfl (by simp [go_sem]; rfl) ?_; clear hE; intro b w hE; simp only [Act.eval, Act.put, List.setIfInBounds_toArray, List.set_cons_zero, List.set_cons_succ, getD_lit, List.getD_cons_succ, List.getD_cons_zero, Value.cells] at hE)
      | (go_at_call 52; have H := Of_any hE hk.cons (by omega); refine H.mono ?_; clear H hE; rintro e w2 ⟨v, rfl, o, rfl, hE⟩)
      | (go_at_call 54; have H := hX hE; refine H.mono ?_; clear H hE; rintro e w2 ⟨v, rfl, rfl, hE⟩; clear hX)
      | (go_at_call 53; have H := hT1 hE; refine H.mono ?_; clear H hE; rintro e w2 ⟨v, rfl, rfl, hE⟩; clear hT1)
      | (go_at_call 53; have H := hT2 hE; refine H.mono ?_; clear H hE; rintro e w2 ⟨v, rfl, rfl, hE⟩; clear hT2)
      | (go_at_call 53; have H := hT4 hE; refine H.mono ?_; clear H hE; rintro e w2 ⟨v, rfl, rfl, hE⟩; clear hT4)
      | ((with_reducible (show Go.wpList _ _ _ (Go.Oper.mk _ (.store 55 (.tmp 5) _) _ _ _ _ :: _) _ _)); refine wpl_storeW hE 0 rfl rfl rfl (xs := [.int .i64 bx, .int .i64 us, .int .u32 su]) rfl rfl Tryd.sizeOf55 rfl (by simp [Value.oneCell']) rfl ?_; clear hE; intro w hE; simp only [List.set_cons_zero, List.set_cons_succ] at hE)
      | ((with_reducible (show Go.wpList _ _ _ (Go.Oper.mk _ (.load 55 _) _ _ _ _ :: _) _ _)); (first | (refine wpl_loadW hE 0 rfl rfl rfl rfl Tryd.isAgg55 Tryd.sizeOf55 rfl ?_) | (refine wpl_loadW hE 1 rfl rfl rfl rfl Tryd.isAgg55 Tryd.sizeOf55 rfl ?_) | (refine wpl_loadW hE 2 rfl rfl rfl rfl Tryd.isAgg55 Tryd.sizeOf55 rfl ?_) | (refine wpl_loadW hE 3 rfl rfl rfl rfl Tryd.isAgg55 Tryd.sizeOf55 rfl ?_) | (refine wpl_loadW hE 4 rfl rfl rfl rfl Tryd.isAgg55 Tryd.sizeOf55 rfl ?_) | (refine wpl_loadW hE 5 rfl rfl rfl rfl Tryd.isAgg55 Tryd.sizeOf55 rfl ?_) | (refine wpl_loadW hE 6 rfl rfl rfl rfl Tryd.isAgg55 Tryd.sizeOf55 rfl ?_) | (refine wpl_loadW hE 7 rfl rfl rfl rfl Tryd.isAgg55 Tryd.sizeOf55 rfl ?_)))
      | ((with_reducible (show Go.wpList _ _ _ (Go.Oper.mk _ (.load _ _) _ _ _ _ :: _) _ _)); (first | (refine wpl_load1 hE 0 rfl rfl rfl rfl (by simp [go_sem]) rfl ?_) | (refine wpl_load1 hE 1 rfl rfl rfl rfl (by simp [go_sem]) rfl ?_) | (refine wpl_load1 hE 2 rfl rfl rfl rfl (by simp [go_sem]) rfl ?_) | (refine wpl_load1 hE 3 rfl rfl rfl rfl (by simp [go_sem]) rfl ?_) | (refine wpl_load1 hE 4 rfl rfl rfl rfl (by simp [go_sem]) rfl ?_) | (refine wpl_load1 hE 5 rfl rfl rfl rfl (by simp [go_sem]) rfl ?_) | (refine wpl_load1 hE 6 rfl rfl rfl rfl (by simp [go_sem]) rfl ?_) | (refine wpl_load1 hE 7 rfl rfl rfl rfl (by simp [go_sem]) rfl ?_)))
      | fail
      | (go_at_call 55; have H := Err_any (hE.front 1 rfl); refine H.mono ?_; clear H; rintro e w7 ⟨rfl, rfl⟩)
      | (go_at_call 56; have H := Equal_any (reads_row hE 0 rfl) (hk _ hE.tail.tail.tail.tail); rw [Hq.out] at H; refine H.mono ?_; clear H; rintro e w7 ⟨rfl, rfl⟩)
      | (refine wpl_storeW hE 2 rfl rfl rfl (xs := [.int .i64 0, .int .i64 0, .int .u32 0]) rfl rfl Tryd.sizeOf55 rfl (by simp [Value.oneCell']) rfl ?_; clear hE; intro w hE; simp only [List.set_cons_zero, List.set_cons_succ] at hE))
    refine bodyPost_ret (results_cell2 rfl hE 2 rfl rfl Tryd.isAgg55 Tryd.sizeOf55 rfl rfl) rfl ?_
    rw [Hres.out, HresE.out, Hf.out]
    exact ⟨_, rfl, rfl, hE.tail.tail.tail⟩
end Go.Proofs.YtdpfigkjkjjedaaDoor
namespace Go.Proofs.YtdpfigkjkjjedaaDoor
open Go.RowKit Go.SL

theorem num05_any (n : Nat) (hn : n < 18446744073709551616) (width : Int) {l : List HProp} {w : World} (hE : Ent l w) :
    Calls Tryd.prog 51 #[.int .i64 width, .int .u64 n] w (Ret fun v w' => v = .string ⟨(numS width n).toArray⟩ ∧ Ent l w') := by
  go_enter Tryd.func51, Tryd.ntmps51
  go_wp2_with (first
    | go_skip
    | (go_at_call 97; have H := Num_any n hn width hE; refine H.mono ?_; clear H hE; rintro e w2 ⟨v, rfl, rfl, hE⟩))
  go_ret
  exact ⟨_, rfl, rfl, hE⟩
theorem num05_w {n w' : Nat} (h : n < 256 ^ w') (hw : wideB w' = true) (h8 : n < 18446744073709551616) {l : List HProp} {w : World} (hE : Ent l w) :
    Calls Tryd.prog 51 #[.int .i64 (w' : Nat), .int .u64 n] w (Ret fun v w2 => v = .string ⟨(be w' n).toArray⟩ ∧ Ent l w2) := by
  have h := num05_any n h8 w' hE
  have e : numS w' n = be w' n := by
    unfold numS
    rw [hw]
    simp
  rw [e] at h
  exact h
theorem cat3 (a b : List UInt8) (h : a.length + b.length ≤ 1000000) : ∃ p : List UInt8, p = a ++ b ∧ (⟨a.toArray⟩ : ByteArray) ++ ⟨b.toArray⟩ = ⟨p.toArray⟩ ∧ ¬ (9223372036854775807 < a.length + b.length) :=
  ⟨a ++ b, rfl, bytes_join a b, by omega⟩
theorem le4_cells (s : Nat) (h : s < 4294967296) : bvals (le4 s) = [.int .u8 ((s : Int) % 256), .int .u8 ((s : Int) / 256 % 256), .int .u8 ((s : Int) / 65536 % 256), .int .u8 ((s : Int) / 16777216)] := by
  simp only [bvals, le4, List.map_cons, List.map_nil, bval, UInt8.toNat_ofNat', Nat.reducePow]
  rw [show ((s / 16777216 % 256 : Nat) : Int) = (s : Int) / 16777216 by omega]
  congr 1
def PadRel (pre : List UInt8) (l : List HProp) (s : Value) (wr : World) : Prop := ∃ k : Nat, pre.length + k ≤ 508 ∧ s = .string ⟨(pre ++ List.replicate k 0).toArray⟩ ∧ Ent l wr
def padLeft (v : Value) : Nat := match v with | .string s => 508 - s.size | _ => 0
theorem rep_snoc (pre : List UInt8) (k : Nat) : pre ++ List.replicate k (0 : UInt8) ++ [0] = pre ++ List.replicate (k + 1) 0 := by
  rw [List.append_assoc]
  congr 1
  exact List.replicate_succ'.symm

set_option maxRecDepth 100000 in
set_option maxHeartbeats 4000000 in
attribute [-go_sem] Instr.loadAt in
theorem rPut_true {seq : Nat} (hs : seq < 18446744073709551616) {t : List UInt8} (h : t.length ≤ 497) {l : List HProp} {w : World} (hE : Ent l w) :
    Calls Tryd.prog 13 #[.agg #[.int .u64 seq, .bool true, .string ⟨t.toArray⟩]] w (Ret fun v w' => v = .string ⟨(shP seq true t).toArray⟩ ∧ Ent l w') := by
  have hl0 : IntKind.u64.wrap (t.length : Int) = t.length := wrapU_id (by omega)
  have hN8 : ∀ {l : List HProp} {w : World}, Ent l w → Calls Tryd.prog 51 #[.int .i64 8, .int .u64 seq] w (Ret fun v w2 => v = .string ⟨(be 8 seq).toArray⟩ ∧ Ent l w2) := fun h => num05_w (w' := 8) hs rfl hs h
  have hN1 : ∀ {l : List HProp} {w : World}, Ent l w → Calls Tryd.prog 51 #[.int .i64 1, .int .u64 2] w (Ret fun v w2 => v = .string ⟨(be 1 2).toArray⟩ ∧ Ent l w2) := fun h => num05_w (n := 2) (w' := 1) (by decide) rfl (by decide) h
  have hN2 : ∀ {l : List HProp} {w : World}, Ent l w → Calls Tryd.prog 51 #[.int .i64 2, .int .u64 t.length] w (Ret fun v w2 => v = .string ⟨(be 2 t.length).toArray⟩ ∧ Ent l w2) := fun h => num05_w (n := t.length) (w' := 2) (by show t.length < 65536; omega) rfl (by omega) h
  have Hall := SL.hid (show be 8 seq ++ be 1 2 ++ be 2 t.length ++ t ++ List.replicate (497 - t.length) 0 = shH seq true t by simp only [shH, List.append_assoc, if_true, Bool.false_eq_true, if_false])
  have Hl8 := SL.hid (be_length 8 seq)
  have Hl1 := SL.hid (be_length 1 2)
  have Hl2 := SL.hid (be_length 2 t.length)
  generalize be 8 seq = x8 at *
  generalize be 1 2 = x1 at *
  generalize be 2 t.length = x2 at *
  obtain ⟨p1, hp1, hj1, hc1⟩ := cat3 x8 x1 (by have := Hl8.out; have := Hl1.out; omega)
  obtain ⟨p2, hp2, hj2, hc2⟩ := cat3 p1 x2 (by rw [hp1, List.length_append]; have := Hl8.out; have := Hl1.out; have := Hl2.out; omega)
  obtain ⟨p3, hp3, hj3, hc3⟩ := cat3 p2 t (by rw [hp2, hp1, List.length_append, List.length_append]; have := Hl8.out; have := Hl1.out; have := Hl2.out; omega)
  have Hp3 := SL.hid (show p3 ++ List.replicate (497 - t.length) 0 = shH seq true t by rw [hp3, hp2, hp1]; exact Hall.out)
  have Hpl := SL.hid (show p3.length = 11 + t.length by rw [hp3, hp2, hp1, List.length_append, List.length_append, List.length_append]; have := Hl8.out; have := Hl1.out; have := Hl2.out; omega)
  clear hp1 hp2 hp3 Hall Hl8 Hl1 Hl2
  go_enter Tryd.func13, Tryd.ntmps13
  go_wp2_with (first
    | go_skip
    | ((with_reducible (show Go.wpList _ _ _ (Go.Oper.mk _ (.box _ _) _ _ _ _ :: _) _ _)); refine wpl_box hE rfl rfl rfl ?_; clear hE; intro b1 w hE; simp only [Act.eval, Act.put, List.setIfInBounds_toArray, List.set_cons_zero, List.set_cons_succ, getD_lit, List.getD_cons_succ, List.getD_cons_zero, Value.cells] at hE)
    | ((with_reducible (show Go.wpList _ _ _ (Go.Oper.mk _ (.load _ _) _ _ _ _ :: _) _ _)); first | (refine wpl_load1 hE 0 rfl rfl rfl rfl (by simp [go_sem]) rfl ?_) | (refine wpl_load1 hE 1 rfl rfl rfl rfl (by simp [go_sem]) rfl ?_) | (refine wpl_load1 hE 2 rfl rfl rfl rfl (by simp [go_sem]) rfl ?_) | (refine wpl_load1 hE 3 rfl rfl rfl rfl (by simp [go_sem]) rfl ?_) | (refine wpl_load1 hE 4 rfl rfl rfl rfl (by simp [go_sem]) rfl ?_) | (refine wpl_load1 hE 5 rfl rfl rfl rfl (by simp [go_sem]) rfl ?_)))
  refine wp_region_held_drew (S := (fun w' => ((Instr.loadAt 22 (.pointer (some ⟨b1, 0, none⟩))).run Tryd.prog w' = .ok (.int .u64 seq) w') ∧ ((Instr.loadAt 9 (.pointer (some ⟨b1, 2, none⟩))).run Tryd.prog w' = .ok (.string ⟨t.toArray⟩) w'))) (by kernel_rfl) ⟨(atVm hE.drew (by repeat (first | exact List.Mem.head _ | refine List.Mem.tail _ ?_)) (by simp [go_sem]) rfl), (atVm hE.drew (by repeat (first | exact List.Mem.head _ | refine List.Mem.tail _ ?_)) (by simp [go_sem]) rfl)⟩ (fun hS => ?_)
  refine takeW 0 ⟨some 8, .fieldAddr 24 (.tmp 1) 0, 0, "ref.go:29", #[], none⟩ ?_ (.inl ⟨by rfl, ?_⟩) hS ?_
  rotate_left
  · (intro w hSw; (try dsimp only at hSw); go_simp; (try with_reducible rfl))
  try simp only [Act.put, sb, s0, sz]
  refine takeW 1 ⟨some 9, .load 22 (.tmp 8), 22, "ref.go:29", #[⟨0, .data⟩], none⟩ ?_ (.inl ⟨by rfl, ?_⟩) hS ?_
  rotate_left
  · (intro w hSw; (try dsimp only at hSw); go_simp; (try with_reducible rfl))
  try simp only [Act.put, sb, s0, sz]
  refine takeW 3 ⟨some 11, .move (.tmp 3), 22, "ref.go:29", #[], none⟩ ?_ (.inl ⟨by rfl, ?_⟩) hS ?_
  rotate_left
  · (intro w hSw; (try dsimp only at hSw); go_simp; (try with_reducible rfl))
  try simp only [Act.put, sb, s0, sz]
  refine takeW 6 ⟨some 14, .fieldAddr 24 (.tmp 1) 2, 0, "ref.go:29", #[], none⟩ ?_ (.inl ⟨by rfl, ?_⟩) hS ?_
  rotate_left
  · (intro w hSw; (try dsimp only at hSw); go_simp; (try with_reducible rfl))
  try simp only [Act.put, sb, s0, sz]
  refine takeW 7 ⟨some 15, .load 9 (.tmp 14), 9, "ref.go:29", #[⟨6, .data⟩], none⟩ ?_ (.inl ⟨by rfl, ?_⟩) hS ?_
  rotate_left
  · (intro w hSw; (try dsimp only at hSw); go_simp; (try with_reducible rfl))
  try simp only [Act.put, sb, s0, sz]
  refine takeW 8 ⟨some 16, .call { callee := .builtin .len, args := #[.tmp 15], argTypes := #[9] }, 3, "ref.go:29", #[⟨7, .data⟩], none⟩ ?_ (.inl ⟨by rfl, ?_⟩) hS ?_
  rotate_left
  · (intro w hSw; (try dsimp only at hSw); go_simp; (try with_reducible rfl))
  try simp only [Act.put, sb, s0, sz]
  refine takeW 9 ⟨some 17, .convert 3 22 (.tmp 16), 22, "ref.go:29", #[⟨8, .data⟩], none⟩ ?_ (.inl ⟨by rfl, ?_⟩) hS ?_
  rotate_left
  · (intro w hSw; (try dsimp only at hSw); go_simp; (try with_reducible rfl))
  try simp only [Act.put, sb, s0, sz]
  refine takeW 12 ⟨some 20, .fieldAddr 24 (.tmp 1) 2, 0, "ref.go:29", #[], none⟩ ?_ (.inl ⟨by rfl, ?_⟩) hS ?_
  rotate_left
  · (intro w hSw; (try dsimp only at hSw); go_simp; (try with_reducible rfl))
  try simp only [Act.put, sb, s0, sz]
  refine takeW 13 ⟨some 21, .load 9 (.tmp 20), 9, "ref.go:29", #[⟨12, .data⟩], none⟩ ?_ (.inl ⟨by rfl, ?_⟩) hS ?_
  rotate_left
  · (intro w hSw; (try dsimp only at hSw); go_simp; (try with_reducible rfl))
  try simp only [Act.put, sb, s0, sz]
  refine wpAnyH_ready (rs := [2]) (by kernel_rfl) (by simp) ?_
  refine (AllReadyH.cons (o := { dst := some 10, op := Go.Op.call { callee := Go.Callee.value (Go.Operand.func 51), args := #[Go.Operand.const (Go.Value.int Go.IntKind.i64 8), Go.Operand.tmp 9], argTypes := #[3, 22] }, type := 9, pos := "ref.go:29", after := #[{ on := 1, ground := Go.Ground.data }], guard := none }) rfl (fun K hK => ?_) AllReadyH.nil)
  (go_simp; refine (hN8 hE.drew).mono ?_; rintro e w3 ⟨v, rfl, rfl, hE3⟩)
  refine hK.out _ _ ⟨(atVm hE3 (by repeat (first | exact List.Mem.head _ | refine List.Mem.tail _ ?_)) (by simp [go_sem]) rfl), (atVm hE3 (by repeat (first | exact List.Mem.head _ | refine List.Mem.tail _ ?_)) (by simp [go_sem]) rfl)⟩ (fun hS => ?_)
  clear hK K
  try simp only [Act.put, sb, s0, sz]
  refine wpAnyH_ready (rs := [4]) (by kernel_rfl) (by simp) ?_
  refine (AllReadyH.cons (o := { dst := some 12, op := Go.Op.call { callee := Go.Callee.value (Go.Operand.func 51), args := #[Go.Operand.const (Go.Value.int Go.IntKind.i64 1), Go.Operand.tmp 11], argTypes := #[3, 22] }, type := 9, pos := "ref.go:29", after := #[{ on := 3, ground := Go.Ground.data }, { on := 2, ground := Go.Ground.chain }], guard := none }) rfl (fun K hK => ?_) AllReadyH.nil)
  (go_simp; refine (hN1 hE3).mono ?_; rintro e w4 ⟨v, rfl, rfl, hE4⟩)
  refine hK.out _ _ (by first | exact ⟨(atVm hE4 (by repeat (first | exact List.Mem.head _ | refine List.Mem.tail _ ?_)) (by simp [go_sem]) rfl), (atVm hE4 (by repeat (first | exact List.Mem.head _ | refine List.Mem.tail _ ?_)) (by simp [go_sem]) rfl)⟩ | exact ⟨(atVm hE3 (by repeat (first | exact List.Mem.head _ | refine List.Mem.tail _ ?_)) (by simp [go_sem]) rfl), (atVm hE3 (by repeat (first | exact List.Mem.head _ | refine List.Mem.tail _ ?_)) (by simp [go_sem]) rfl)⟩) (fun hS => ?_)
  clear hK K
  try simp only [Act.put, sb, s0, sz]
  refine takeW 5 ⟨some 13, .binOp .add 9 (.tmp 10) (.tmp 12) 9, 9, "ref.go:29", #[⟨2, .data⟩, ⟨4, .data⟩], none⟩ ?_ (.inl ⟨by rfl, ?_⟩) hS ?_
  rotate_left
  · (intro w hSw; (try dsimp only at hSw); go_simp; (try with_reducible rfl))
  try simp only [Act.put, sb, s0, sz]
  refine wpAnyH_ready (rs := [10]) (by kernel_rfl) (by simp) ?_
  refine (AllReadyH.cons (o := { dst := some 18, op := Go.Op.call { callee := Go.Callee.value (Go.Operand.func 51), args := #[Go.Operand.const (Go.Value.int Go.IntKind.i64 2), Go.Operand.tmp 17], argTypes := #[3, 22] }, type := 9, pos := "ref.go:29", after := #[{ on := 9, ground := Go.Ground.data }, { on := 4, ground := Go.Ground.chain }], guard := none }) rfl (fun K hK => ?_) AllReadyH.nil)
  (go_simp; refine (hN2 hE4).mono ?_; rintro e w5 ⟨v, rfl, rfl, hE5⟩)
  refine hK.out _ _ (by first | exact ⟨(atVm hE5 (by repeat (first | exact List.Mem.head _ | refine List.Mem.tail _ ?_)) (by simp [go_sem]) rfl), (atVm hE5 (by repeat (first | exact List.Mem.head _ | refine List.Mem.tail _ ?_)) (by simp [go_sem]) rfl)⟩ | exact ⟨(atVm hE4 (by repeat (first | exact List.Mem.head _ | refine List.Mem.tail _ ?_)) (by simp [go_sem]) rfl), (atVm hE4 (by repeat (first | exact List.Mem.head _ | refine List.Mem.tail _ ?_)) (by simp [go_sem]) rfl)⟩) (fun hS => ?_)
  clear hK K
  try simp only [Act.put, sb, s0, sz]
  refine takeW 11 ⟨some 19, .binOp .add 9 (.tmp 13) (.tmp 18) 9, 9, "ref.go:29", #[⟨5, .data⟩, ⟨10, .data⟩], none⟩ ?_ (.inl ⟨by rfl, ?_⟩) hS ?_
  rotate_left
  · (intro w hSw; (try dsimp only at hSw); go_simp; (try with_reducible rfl))
  try simp only [Act.put, sb, s0, sz]
  refine takeW 14 ⟨some 22, .binOp .add 9 (.tmp 19) (.tmp 21) 9, 9, "ref.go:29", #[⟨11, .data⟩, ⟨13, .data⟩], none⟩ ?_ (.inl ⟨by rfl, ?_⟩) hS ?_
  rotate_left
  · (intro w hSw; (try dsimp only at hSw); go_simp; (try with_reducible rfl))
  try simp only [Act.put, sb, s0, sz]
  refine takeW 15 ⟨some 4, .assign (.tmp 22), 9, "ref.go:29", #[⟨14, .data⟩, ⟨10, .chain⟩, ⟨0, .phase⟩, ⟨1, .phase⟩, ⟨2, .phase⟩, ⟨3, .phase⟩, ⟨4, .phase⟩, ⟨5, .phase⟩, ⟨6, .phase⟩, ⟨7, .phase⟩, ⟨8, .phase⟩, ⟨9, .phase⟩, ⟨10, .phase⟩, ⟨11, .phase⟩, ⟨12, .phase⟩, ⟨13, .phase⟩, ⟨14, .phase⟩], none⟩ ?_ (.inl ⟨by rfl, ?_⟩) hS ?_
  rotate_left
  · (intro w hSw; (try dsimp only at hSw); go_simp; (try with_reducible rfl))
  try simp only [Act.put, sb, s0, sz]
  refine wpAnyH_done (by kernel_rfl) ?_ _
  have Hh := SL.hid h
  clear hE hE3 hE4 hN8 hN1 hN2 hj1 hj2 hj3 hc1 hc2 hc3 hl0 h
  go_wp2
  go_loopw [4] (fun s wr => PadRel p3 (pt b1 (.cells #[.int .u64 seq, .bool true, .string ⟨t.toArray⟩] 24) :: l) s wr) (fun s _ => padLeft s)
  case atStart => exact ⟨0, by have := Hpl.out; have := Hh.out; omega, by simp, hE5⟩
  case round =>
    clear hE5
    obtain ⟨k, hk, rfl, hE⟩ := hrel
    have hlen : (p3 ++ List.replicate k (0 : UInt8)).length = p3.length + k := by simp
    have Hnx := SL.hid (rep_snoc p3 k)
    have Hq := SL.hid (show p3.length + k = 508 → p3 ++ List.replicate k 0 = shH seq true t from fun e => by
      rw [← Hp3.out, show 497 - t.length = k by have := Hpl.out; omega])
    have Hk := SL.hid hk
    clear hk
    generalize p3 ++ List.replicate k (0 : UInt8) = cur at *
    by_cases hlt : cur.length < 508
    · obtain ⟨p, hp, hj, hc⟩ := cat3 cur [0] (by simp; omega)
      have hd : decide ((cur.length : Int) < 508) = true := decide_eq_true (by omega)
      have Hp := SL.hid hp
      clear hp
      have Hl := SL.hid hlen
      clear hlen
      go_wp2
      go_roundw
      case rel => exact ⟨k + 1, by have := Hl.out; omega, by rw [Hp.out, Hnx.out], hE⟩
      case measure => simp only [padLeft, bytes_size, Hp.out, List.length_append, List.length_cons, List.length_nil]; omega
    · have hd : decide ((cur.length : Int) < 508) = false := decide_eq_false (by omega)
      have hcs : crcV cur < 4294967296 := by unfold crcV; omega
      have Hl4 := SL.hid (le4_cells (crcV cur) hcs)
      obtain ⟨p, hp, hj, hc⟩ := cat3 cur (le4 (crcV cur)) (by rw [show (le4 (crcV cur)).length = 4 from rfl]; have := Hk.out; omega)
      have Hp := SL.hid (show p = shP seq true t by rw [hp, Hq.out (by have := Hk.out; omega)]; rfl)
      have Hcl := SL.hid (show cur.length ≤ 1099511627776 by have := Hk.out; omega)
      clear hp hlt hlen
      generalize hy : le4 (crcV cur) = y at *
      have Hyl := SL.hid (show y.length = 4 by rw [← hy]; rfl)
      clear hy
      go_wp2_with (first
        | go_skip
        | (go_at_call 22; refine (refSum_any cur _ Hcl.out).mono ?_; rintro e w2 ⟨rfl, rfl⟩)
        | ((with_reducible (show Go.wpList _ _ _ (Go.Oper.mk _ (.convert _ _ _) _ _ _ _ :: _) _ _)); refine wpl_bytesStr (bs := y) rfl rfl rfl Tryd.underlying26 Tryd.underlying5 Tryd.underlying9 (n := 4) (reads_pt (hE.alloc _) 0 rfl (off := 0) (fun j u hu => by have hu2 : (bvals y)[j]? = some u := hu; rw [Hl4.out] at hu2; simpa using hu2)) Hyl.out.symm ?_))
      go_ret
      exact ⟨_, rfl, by rw [← Hp.out]; rfl, (hE.alloc _).tail.tail⟩

set_option maxRecDepth 100000 in
set_option maxHeartbeats 4000000 in
attribute [-go_sem] Instr.loadAt in
theorem rPut_false {seq : Nat} (hs : seq < 18446744073709551616) {t : List UInt8} (h : t.length ≤ 497) {l : List HProp} {w : World} (hE : Ent l w) :
    Calls Tryd.prog 13 #[.agg #[.int .u64 seq, .bool false, .string ⟨t.toArray⟩]] w (Ret fun v w' => v = .string ⟨(shP seq false t).toArray⟩ ∧ Ent l w') := by
  have hl0 : IntKind.u64.wrap (t.length : Int) = t.length := wrapU_id (by omega)
  have hN8 : ∀ {l : List HProp} {w : World}, Ent l w → Calls Tryd.prog 51 #[.int .i64 8, .int .u64 seq] w (Ret fun v w2 => v = .string ⟨(be 8 seq).toArray⟩ ∧ Ent l w2) := fun h => num05_w (w' := 8) hs rfl hs h
  have hN1 : ∀ {l : List HProp} {w : World}, Ent l w → Calls Tryd.prog 51 #[.int .i64 1, .int .u64 1] w (Ret fun v w2 => v = .string ⟨(be 1 1).toArray⟩ ∧ Ent l w2) := fun h => num05_w (n := 1) (w' := 1) (by decide) rfl (by decide) h
  have hN2 : ∀ {l : List HProp} {w : World}, Ent l w → Calls Tryd.prog 51 #[.int .i64 2, .int .u64 t.length] w (Ret fun v w2 => v = .string ⟨(be 2 t.length).toArray⟩ ∧ Ent l w2) := fun h => num05_w (n := t.length) (w' := 2) (by show t.length < 65536; omega) rfl (by omega) h
  have Hall := SL.hid (show be 8 seq ++ be 1 1 ++ be 2 t.length ++ t ++ List.replicate (497 - t.length) 0 = shH seq false t by simp only [shH, List.append_assoc, if_true, Bool.false_eq_true, if_false])
  have Hl8 := SL.hid (be_length 8 seq)
  have Hl1 := SL.hid (be_length 1 1)
  have Hl2 := SL.hid (be_length 2 t.length)
  generalize be 8 seq = x8 at *
  generalize be 1 1 = x1 at *
  generalize be 2 t.length = x2 at *
  obtain ⟨p1, hp1, hj1, hc1⟩ := cat3 x8 x1 (by have := Hl8.out; have := Hl1.out; omega)
  obtain ⟨p2, hp2, hj2, hc2⟩ := cat3 p1 x2 (by rw [hp1, List.length_append]; have := Hl8.out; have := Hl1.out; have := Hl2.out; omega)
  obtain ⟨p3, hp3, hj3, hc3⟩ := cat3 p2 t (by rw [hp2, hp1, List.length_append, List.length_append]; have := Hl8.out; have := Hl1.out; have := Hl2.out; omega)
  have Hp3 := SL.hid (show p3 ++ List.replicate (497 - t.length) 0 = shH seq false t by rw [hp3, hp2, hp1]; exact Hall.out)
  have Hpl := SL.hid (show p3.length = 11 + t.length by rw [hp3, hp2, hp1, List.length_append, List.length_append, List.length_append]; have := Hl8.out; have := Hl1.out; have := Hl2.out; omega)
  clear hp1 hp2 hp3 Hall Hl8 Hl1 Hl2
  go_enter Tryd.func13, Tryd.ntmps13
  go_wp2_with (first
    | go_skip
    | ((with_reducible (show Go.wpList _ _ _ (Go.Oper.mk _ (.box _ _) _ _ _ _ :: _) _ _)); refine wpl_box hE rfl rfl rfl ?_; clear hE; intro b1 w hE; simp only [Act.eval, Act.put, List.setIfInBounds_toArray, List.set_cons_zero, List.set_cons_succ, getD_lit, List.getD_cons_succ, List.getD_cons_zero, Value.cells] at hE)
    | ((with_reducible (show Go.wpList _ _ _ (Go.Oper.mk _ (.load _ _) _ _ _ _ :: _) _ _)); first | (refine wpl_load1 hE 0 rfl rfl rfl rfl (by simp [go_sem]) rfl ?_) | (refine wpl_load1 hE 1 rfl rfl rfl rfl (by simp [go_sem]) rfl ?_) | (refine wpl_load1 hE 2 rfl rfl rfl rfl (by simp [go_sem]) rfl ?_) | (refine wpl_load1 hE 3 rfl rfl rfl rfl (by simp [go_sem]) rfl ?_) | (refine wpl_load1 hE 4 rfl rfl rfl rfl (by simp [go_sem]) rfl ?_) | (refine wpl_load1 hE 5 rfl rfl rfl rfl (by simp [go_sem]) rfl ?_)))
  refine wp_region_held_drew (S := (fun w' => ((Instr.loadAt 22 (.pointer (some ⟨b1, 0, none⟩))).run Tryd.prog w' = .ok (.int .u64 seq) w') ∧ ((Instr.loadAt 9 (.pointer (some ⟨b1, 2, none⟩))).run Tryd.prog w' = .ok (.string ⟨t.toArray⟩) w'))) (by kernel_rfl) ⟨(atVm hE.drew (by repeat (first | exact List.Mem.head _ | refine List.Mem.tail _ ?_)) (by simp [go_sem]) rfl), (atVm hE.drew (by repeat (first | exact List.Mem.head _ | refine List.Mem.tail _ ?_)) (by simp [go_sem]) rfl)⟩ (fun hS => ?_)
  refine takeW 0 ⟨some 8, .fieldAddr 24 (.tmp 1) 0, 0, "ref.go:29", #[], none⟩ ?_ (.inl ⟨by rfl, ?_⟩) hS ?_
  rotate_left
  · (intro w hSw; (try dsimp only at hSw); go_simp; (try with_reducible rfl))
  try simp only [Act.put, sb, s0, sz]
  refine takeW 1 ⟨some 9, .load 22 (.tmp 8), 22, "ref.go:29", #[⟨0, .data⟩], none⟩ ?_ (.inl ⟨by rfl, ?_⟩) hS ?_
  rotate_left
  · (intro w hSw; (try dsimp only at hSw); go_simp; (try with_reducible rfl))
  try simp only [Act.put, sb, s0, sz]
  refine takeW 3 ⟨some 11, .move (.tmp 3), 22, "ref.go:29", #[], none⟩ ?_ (.inl ⟨by rfl, ?_⟩) hS ?_
  rotate_left
  · (intro w hSw; (try dsimp only at hSw); go_simp; (try with_reducible rfl))
  try simp only [Act.put, sb, s0, sz]
  refine takeW 6 ⟨some 14, .fieldAddr 24 (.tmp 1) 2, 0, "ref.go:29", #[], none⟩ ?_ (.inl ⟨by rfl, ?_⟩) hS ?_
  rotate_left
  · (intro w hSw; (try dsimp only at hSw); go_simp; (try with_reducible rfl))
  try simp only [Act.put, sb, s0, sz]
  refine takeW 7 ⟨some 15, .load 9 (.tmp 14), 9, "ref.go:29", #[⟨6, .data⟩], none⟩ ?_ (.inl ⟨by rfl, ?_⟩) hS ?_
  rotate_left
  · (intro w hSw; (try dsimp only at hSw); go_simp; (try with_reducible rfl))
  try simp only [Act.put, sb, s0, sz]
  refine takeW 8 ⟨some 16, .call { callee := .builtin .len, args := #[.tmp 15], argTypes := #[9] }, 3, "ref.go:29", #[⟨7, .data⟩], none⟩ ?_ (.inl ⟨by rfl, ?_⟩) hS ?_
  rotate_left
  · (intro w hSw; (try dsimp only at hSw); go_simp; (try with_reducible rfl))
  try simp only [Act.put, sb, s0, sz]
  refine takeW 9 ⟨some 17, .convert 3 22 (.tmp 16), 22, "ref.go:29", #[⟨8, .data⟩], none⟩ ?_ (.inl ⟨by rfl, ?_⟩) hS ?_
  rotate_left
  · (intro w hSw; (try dsimp only at hSw); go_simp; (try with_reducible rfl))
  try simp only [Act.put, sb, s0, sz]
  refine takeW 12 ⟨some 20, .fieldAddr 24 (.tmp 1) 2, 0, "ref.go:29", #[], none⟩ ?_ (.inl ⟨by rfl, ?_⟩) hS ?_
  rotate_left
  · (intro w hSw; (try dsimp only at hSw); go_simp; (try with_reducible rfl))
  try simp only [Act.put, sb, s0, sz]
  refine takeW 13 ⟨some 21, .load 9 (.tmp 20), 9, "ref.go:29", #[⟨12, .data⟩], none⟩ ?_ (.inl ⟨by rfl, ?_⟩) hS ?_
  rotate_left
  · (intro w hSw; (try dsimp only at hSw); go_simp; (try with_reducible rfl))
  try simp only [Act.put, sb, s0, sz]
  refine wpAnyH_ready (rs := [2]) (by kernel_rfl) (by simp) ?_
  refine (AllReadyH.cons (o := { dst := some 10, op := Go.Op.call { callee := Go.Callee.value (Go.Operand.func 51), args := #[Go.Operand.const (Go.Value.int Go.IntKind.i64 8), Go.Operand.tmp 9], argTypes := #[3, 22] }, type := 9, pos := "ref.go:29", after := #[{ on := 1, ground := Go.Ground.data }], guard := none }) rfl (fun K hK => ?_) AllReadyH.nil)
  (go_simp; refine (hN8 hE.drew).mono ?_; rintro e w3 ⟨v, rfl, rfl, hE3⟩)
  refine hK.out _ _ ⟨(atVm hE3 (by repeat (first | exact List.Mem.head _ | refine List.Mem.tail _ ?_)) (by simp [go_sem]) rfl), (atVm hE3 (by repeat (first | exact List.Mem.head _ | refine List.Mem.tail _ ?_)) (by simp [go_sem]) rfl)⟩ (fun hS => ?_)
  clear hK K
  try simp only [Act.put, sb, s0, sz]
  refine wpAnyH_ready (rs := [4]) (by kernel_rfl) (by simp) ?_
  refine (AllReadyH.cons (o := { dst := some 12, op := Go.Op.call { callee := Go.Callee.value (Go.Operand.func 51), args := #[Go.Operand.const (Go.Value.int Go.IntKind.i64 1), Go.Operand.tmp 11], argTypes := #[3, 22] }, type := 9, pos := "ref.go:29", after := #[{ on := 3, ground := Go.Ground.data }, { on := 2, ground := Go.Ground.chain }], guard := none }) rfl (fun K hK => ?_) AllReadyH.nil)
  (go_simp; refine (hN1 hE3).mono ?_; rintro e w4 ⟨v, rfl, rfl, hE4⟩)
  refine hK.out _ _ (by first | exact ⟨(atVm hE4 (by repeat (first | exact List.Mem.head _ | refine List.Mem.tail _ ?_)) (by simp [go_sem]) rfl), (atVm hE4 (by repeat (first | exact List.Mem.head _ | refine List.Mem.tail _ ?_)) (by simp [go_sem]) rfl)⟩ | exact ⟨(atVm hE3 (by repeat (first | exact List.Mem.head _ | refine List.Mem.tail _ ?_)) (by simp [go_sem]) rfl), (atVm hE3 (by repeat (first | exact List.Mem.head _ | refine List.Mem.tail _ ?_)) (by simp [go_sem]) rfl)⟩) (fun hS => ?_)
  clear hK K
  try simp only [Act.put, sb, s0, sz]
  refine takeW 5 ⟨some 13, .binOp .add 9 (.tmp 10) (.tmp 12) 9, 9, "ref.go:29", #[⟨2, .data⟩, ⟨4, .data⟩], none⟩ ?_ (.inl ⟨by rfl, ?_⟩) hS ?_
  rotate_left
  · (intro w hSw; (try dsimp only at hSw); go_simp; (try with_reducible rfl))
  try simp only [Act.put, sb, s0, sz]
  refine wpAnyH_ready (rs := [10]) (by kernel_rfl) (by simp) ?_
  refine (AllReadyH.cons (o := { dst := some 18, op := Go.Op.call { callee := Go.Callee.value (Go.Operand.func 51), args := #[Go.Operand.const (Go.Value.int Go.IntKind.i64 2), Go.Operand.tmp 17], argTypes := #[3, 22] }, type := 9, pos := "ref.go:29", after := #[{ on := 9, ground := Go.Ground.data }, { on := 4, ground := Go.Ground.chain }], guard := none }) rfl (fun K hK => ?_) AllReadyH.nil)
  (go_simp; refine (hN2 hE4).mono ?_; rintro e w5 ⟨v, rfl, rfl, hE5⟩)
  refine hK.out _ _ (by first | exact ⟨(atVm hE5 (by repeat (first | exact List.Mem.head _ | refine List.Mem.tail _ ?_)) (by simp [go_sem]) rfl), (atVm hE5 (by repeat (first | exact List.Mem.head _ | refine List.Mem.tail _ ?_)) (by simp [go_sem]) rfl)⟩ | exact ⟨(atVm hE4 (by repeat (first | exact List.Mem.head _ | refine List.Mem.tail _ ?_)) (by simp [go_sem]) rfl), (atVm hE4 (by repeat (first | exact List.Mem.head _ | refine List.Mem.tail _ ?_)) (by simp [go_sem]) rfl)⟩) (fun hS => ?_)
  clear hK K
  try simp only [Act.put, sb, s0, sz]
  refine takeW 11 ⟨some 19, .binOp .add 9 (.tmp 13) (.tmp 18) 9, 9, "ref.go:29", #[⟨5, .data⟩, ⟨10, .data⟩], none⟩ ?_ (.inl ⟨by rfl, ?_⟩) hS ?_
  rotate_left
  · (intro w hSw; (try dsimp only at hSw); go_simp; (try with_reducible rfl))
  try simp only [Act.put, sb, s0, sz]
  refine takeW 14 ⟨some 22, .binOp .add 9 (.tmp 19) (.tmp 21) 9, 9, "ref.go:29", #[⟨11, .data⟩, ⟨13, .data⟩], none⟩ ?_ (.inl ⟨by rfl, ?_⟩) hS ?_
  rotate_left
  · (intro w hSw; (try dsimp only at hSw); go_simp; (try with_reducible rfl))
  try simp only [Act.put, sb, s0, sz]
  refine takeW 15 ⟨some 4, .assign (.tmp 22), 9, "ref.go:29", #[⟨14, .data⟩, ⟨10, .chain⟩, ⟨0, .phase⟩, ⟨1, .phase⟩, ⟨2, .phase⟩, ⟨3, .phase⟩, ⟨4, .phase⟩, ⟨5, .phase⟩, ⟨6, .phase⟩, ⟨7, .phase⟩, ⟨8, .phase⟩, ⟨9, .phase⟩, ⟨10, .phase⟩, ⟨11, .phase⟩, ⟨12, .phase⟩, ⟨13, .phase⟩, ⟨14, .phase⟩], none⟩ ?_ (.inl ⟨by rfl, ?_⟩) hS ?_
  rotate_left
  · (intro w hSw; (try dsimp only at hSw); go_simp; (try with_reducible rfl))
  try simp only [Act.put, sb, s0, sz]
  refine wpAnyH_done (by kernel_rfl) ?_ _
  have Hh := SL.hid h
  clear hE hE3 hE4 hN8 hN1 hN2 hj1 hj2 hj3 hc1 hc2 hc3 hl0 h
  go_wp2
  go_loopw [4] (fun s wr => PadRel p3 (pt b1 (.cells #[.int .u64 seq, .bool false, .string ⟨t.toArray⟩] 24) :: l) s wr) (fun s _ => padLeft s)
  case atStart => exact ⟨0, by have := Hpl.out; have := Hh.out; omega, by simp, hE5⟩
  case round =>
    clear hE5
    obtain ⟨k, hk, rfl, hE⟩ := hrel
    have hlen : (p3 ++ List.replicate k (0 : UInt8)).length = p3.length + k := by simp
    have Hnx := SL.hid (rep_snoc p3 k)
    have Hq := SL.hid (show p3.length + k = 508 → p3 ++ List.replicate k 0 = shH seq false t from fun e => by
      rw [← Hp3.out, show 497 - t.length = k by have := Hpl.out; omega])
    have Hk := SL.hid hk
    clear hk
    generalize p3 ++ List.replicate k (0 : UInt8) = cur at *
    by_cases hlt : cur.length < 508
    · obtain ⟨p, hp, hj, hc⟩ := cat3 cur [0] (by simp; omega)
      have hd : decide ((cur.length : Int) < 508) = true := decide_eq_true (by omega)
      have Hp := SL.hid hp
      clear hp
      have Hl := SL.hid hlen
      clear hlen
      go_wp2
      go_roundw
      case rel => exact ⟨k + 1, by have := Hl.out; omega, by rw [Hp.out, Hnx.out], hE⟩
      case measure => simp only [padLeft, bytes_size, Hp.out, List.length_append, List.length_cons, List.length_nil]; omega
    · have hd : decide ((cur.length : Int) < 508) = false := decide_eq_false (by omega)
      have hcs : crcV cur < 4294967296 := by unfold crcV; omega
      have Hl4 := SL.hid (le4_cells (crcV cur) hcs)
      obtain ⟨p, hp, hj, hc⟩ := cat3 cur (le4 (crcV cur)) (by rw [show (le4 (crcV cur)).length = 4 from rfl]; have := Hk.out; omega)
      have Hp := SL.hid (show p = shP seq false t by rw [hp, Hq.out (by have := Hk.out; omega)]; rfl)
      have Hcl := SL.hid (show cur.length ≤ 1099511627776 by have := Hk.out; omega)
      clear hp hlt hlen
      generalize hy : le4 (crcV cur) = y at *
      have Hyl := SL.hid (show y.length = 4 by rw [← hy]; rfl)
      clear hy
      go_wp2_with (first
        | go_skip
        | (go_at_call 22; refine (refSum_any cur _ Hcl.out).mono ?_; rintro e w2 ⟨rfl, rfl⟩)
        | ((with_reducible (show Go.wpList _ _ _ (Go.Oper.mk _ (.convert _ _ _) _ _ _ _ :: _) _ _)); refine wpl_bytesStr (bs := y) rfl rfl rfl Tryd.underlying26 Tryd.underlying5 Tryd.underlying9 (n := 4) (reads_pt (hE.alloc _) 0 rfl (off := 0) (fun j u hu => by have hu2 : (bvals y)[j]? = some u := hu; rw [Hl4.out] at hu2; simpa using hu2)) Hyl.out.symm ?_))
      go_ret
      exact ⟨_, rfl, by rw [← Hp.out]; rfl, (hE.alloc _).tail.tail⟩

theorem rPut_ok {seq : Nat} (last : Bool) (hs : seq < 18446744073709551616) {t : List UInt8} (h : t.length ≤ 497) {l : List HProp} {w : World} (hE : Ent l w) :
    Calls Tryd.prog 13 #[.agg #[.int .u64 seq, .bool last, .string ⟨t.toArray⟩]] w (Ret fun v w' => v = .string ⟨(shP seq last t).toArray⟩ ∧ Ent l w') := by
  cases last with
  | true => exact rPut_true hs h hE
  | false => exact rPut_false hs h hE
end Go.Proofs.YtdpfigkjkjjedaaDoor
namespace Go.Proofs.YtdpfigkjkjjedaaDoor
open Go.RowKit Go.SL

def resD (b : List UInt8) : Sht := if dcOk b then dcS b else shZ
def resDE (b : List UInt8) : Int := if dcOk b then 0 else 3
theorem res_same (b : List UInt8) : resS b = resD b ∧ resSE b = resDE b := by
  obtain ⟨h1, h2⟩ := rd_dc b
  unfold resS resD resSE resDE
  rw [← h1]
  cases h : rdOk b with
  | true => exact ⟨h2 h, rfl⟩
  | false => exact ⟨rfl, rfl⟩
theorem u8_is (c : UInt8) (n : Nat) (hn : n < 256) : ((c.toNat : Int) == (n : Int)) = (c == UInt8.ofNat n) := by
  rw [Bool.eq_iff_iff]; simp only [beq_iff_eq]
  constructor
  · intro h
    apply UInt8.toNat_inj.1
    rw [UInt8.toNat_ofNat', Nat.mod_eq_of_lt (by omega)]; omega
  · rintro rfl
    rw [UInt8.toNat_ofNat', Nat.mod_eq_of_lt (by omega)]
theorem u8_isnt (c : UInt8) (n : Nat) (hn : n < 256) : ((c.toNat : Int) != (n : Int)) = !(c == UInt8.ofNat n) := by rw [bne, u8_is c n hn]
theorem dcN_lt (b : List UInt8) : dcN b < 65536 := by
  unfold dcN
  rcases h : (b.drop 9).take 2 with _ | ⟨c, _ | ⟨d, r⟩⟩
  · simp [beVal]
  · rw [beVal_one]; have := c.toNat_lt; omega
  · have : r = [] := by
      have := congrArg List.length h
      rw [List.length_take] at this
      simp at this
      exact List.eq_nil_of_length_eq_zero (by omega)
    subst this
    have := c.toNat_lt
    have := d.toNat_lt
    simp only [beVal, List.foldl_cons, List.foldl_nil]
    omega

set_option maxRecDepth 100000 in
theorem rTake_short {b : List UInt8} (hb : b.length ≤ 1000000) (h : (b.length == 512) = false) {l : List HProp} {w : World} (hE : Ent l w) :
    Calls Tryd.prog 15 #[.string ⟨b.toArray⟩] w (Ret fun v w' => v = .tuple #[shV (resD b), .int .i64 (resDE b)] ∧ Ent l w') := by
  have Hf := SL.hid (show dcOk b = false by unfold dcOk; rw [h]; rfl)
  have hd : ((b.length : Int) != 512) = true := by simp at h ⊢; omega
  clear h
  go_enter Tryd.func15, Tryd.ntmps15
  go_wp2_with (first
    | go_skip
    | ((with_reducible (show Go.wpList _ _ _ (Go.Oper.mk _ (.alloc _) _ _ _ _ :: _) _ _)); refine wpl_alloc hE rfl rfl (by simp [go_sem]; rfl) ?_; clear hE; intro b w hE; simp only [Act.eval, Act.put, List.setIfInBounds_toArray, List.set_cons_zero, List.set_cons_succ, getD_lit, List.getD_cons_succ, List.getD_cons_zero, Value.cells] at hE)
    | ((with_reducible (show Go.wpList _ _ _ (Go.Oper.mk _ (.store 24 _ _) _ _ _ _ :: _) _ _)); (first | (refine wpl_storeW hE 0 rfl rfl rfl (xs := [.int .u64 0, .bool false, .string ⟨#[]⟩]) rfl rfl Tryd.sizeOf24 rfl (by simp [Value.oneCell']) rfl ?_) | (refine wpl_storeW hE 1 rfl rfl rfl (xs := [.int .u64 0, .bool false, .string ⟨#[]⟩]) rfl rfl Tryd.sizeOf24 rfl (by simp [Value.oneCell']) rfl ?_) | (refine wpl_storeW hE 2 rfl rfl rfl (xs := [.int .u64 0, .bool false, .string ⟨#[]⟩]) rfl rfl Tryd.sizeOf24 rfl (by simp [Value.oneCell']) rfl ?_) | (refine wpl_storeW hE 3 rfl rfl rfl (xs := [.int .u64 0, .bool false, .string ⟨#[]⟩]) rfl rfl Tryd.sizeOf24 rfl (by simp [Value.oneCell']) rfl ?_) | (refine wpl_storeW hE 4 rfl rfl rfl (xs := [.int .u64 0, .bool false, .string ⟨#[]⟩]) rfl rfl Tryd.sizeOf24 rfl (by simp [Value.oneCell']) rfl ?_) | (refine wpl_storeW hE 5 rfl rfl rfl (xs := [.int .u64 0, .bool false, .string ⟨#[]⟩]) rfl rfl Tryd.sizeOf24 rfl (by simp [Value.oneCell']) rfl ?_) | (refine wpl_storeW hE 6 rfl rfl rfl (xs := [.int .u64 0, .bool false, .string ⟨#[]⟩]) rfl rfl Tryd.sizeOf24 rfl (by simp [Value.oneCell']) rfl ?_) | (refine wpl_storeW hE 7 rfl rfl rfl (xs := [.int .u64 0, .bool false, .string ⟨#[]⟩]) rfl rfl Tryd.sizeOf24 rfl (by simp [Value.oneCell']) rfl ?_)); clear hE; intro w hE; simp only [List.set_cons_zero, List.set_cons_succ] at hE))
  refine bodyPost_ret (results_cell2 rfl hE 0 rfl rfl Tryd.isAgg24 Tryd.sizeOf24 rfl rfl) rfl ?_
  unfold resD resDE
  rw [Hf.out]
  exact ⟨_, rfl, rfl, hE.tail⟩

set_option maxRecDepth 100000 in
set_option maxHeartbeats 4000000 in
theorem rTake_512 {b : List UInt8} (h : b.length = 512) {l : List HProp} {w : World} (hE : Ent l w) :
    Calls Tryd.prog 15 #[.string ⟨b.toArray⟩] w (Ret fun v w' => v = .tuple #[shV (resD b), .int .i64 (resDE b)] ∧ Ent l w') := by
  have hix : ∀ w, (Instr.index 9 (.string ⟨b.toArray⟩) (.int .i64 8)).run Tryd.prog w = .ok (.int .u8 ((b.getD 8 0).toNat : Int)) w := fun w => run_index_s (P := Tryd.prog) Tryd.underlying9 (bs := b) (k := 8) (by omega) w
  have hs1 : ∀ w, (Instr.sliceAt 9 (.string ⟨b.toArray⟩) (some (.int .i64 9)) (some (.int .i64 11)) none).run Tryd.prog w = .ok (.string ⟨((b.drop 9).take 2).toArray⟩) w := fun w => run_slice_s (P := Tryd.prog) Tryd.underlying9 (bs := b) (a := 9) (k := 11) (by omega) (by omega) w
  have hs2 : ∀ w, (Instr.sliceAt 9 (.string ⟨b.toArray⟩) none (some (.int .i64 8)) none).run Tryd.prog w = .ok (.string ⟨(b.take 8).toArray⟩) w := fun w => run_slice_sHi (P := Tryd.prog) Tryd.underlying9 (bs := b) (k := 8) (by omega) w
  have hV1 := fun w => Value_any ((b.drop 9).take 2) w (by rw [List.length_take]; omega)
  have hV2 := fun w => Value_any (b.take 8) w (by rw [List.length_take]; omega)
  have hN := dcN_lt b
  have hwn : IntKind.i64.wrap ((dcN b : Nat) : Int) = ((dcN b : Nat) : Int) := wrap_id (by omega)
  have hs3 : dcN b ≤ 497 → ∀ w, (Instr.sliceAt 9 (.string ⟨b.toArray⟩) (some (.int .i64 11)) (some (.int .i64 (11 + (dcN b : Int)))) none).run Tryd.prog w = .ok (.string ⟨(dcS b).text.toArray⟩) w := fun hn w => by
    have := run_slice_s (P := Tryd.prog) Tryd.underlying9 (bs := b) (a := 11) (k := 11 + dcN b) (by omega) (by omega) w
    rw [show 11 + dcN b - 11 = dcN b by omega] at this
    rw [show (11 : Int) + (dcN b : Int) = ((11 + dcN b : Nat) : Int) by omega]
    exact this
  have e1 : (((b.getD 8 0).toNat : Int) != 1) = !(b.getD 8 0 == 1) := u8_isnt _ 1 (by omega)
  have e2 : (((b.getD 8 0).toNat : Int) != 2) = !(b.getD 8 0 == 2) := u8_isnt _ 2 (by omega)
  have e3 : (((b.getD 8 0).toNat : Int) == 2) = (dcS b).last := u8_is _ 2 (by omega)
  have Hok := SL.hid (show dcOk b = (decide (dcN b ≤ 497) && ((b.getD 8 0 == 1 || b.getD 8 0 == 2) && (shP (dcS b).seq (dcS b).last (dcS b).text == b))) by unfold dcOk; rw [show (b.length == 512) = true by simp [h], Bool.true_and])
  have Hsq := SL.hid (dcS_seq b)
  have Htl := SL.hid (show dcN b ≤ 497 → (dcS b).text.length ≤ 497 from fun h => by show (List.take _ _).length ≤ _; rw [List.length_take]; omega)
  have Hres := SL.hid (show resD b = if dcOk b then dcS b else shZ from rfl)
  have HresE := SL.hid (show resDE b = if dcOk b then 0 else 3 from rfl)
  have He := SL.hid (show dcS b = ⟨(dcS b).seq, (dcS b).last, (dcS b).text⟩ from rfl)
  have hV1' : ∀ w, Calls Tryd.prog 57 #[.string ⟨((b.drop 9).take 2).toArray⟩] w (fun e w' => e = .returned (.int .u64 (dcN b)) ∧ w = w') := hV1
  have hV2' : ∀ w, Calls Tryd.prog 57 #[.string ⟨(b.take 8).toArray⟩] w (fun e w' => e = .returned (.int .u64 (dcS b).seq) ∧ w = w') := hV2
  have hbl : (b.length : Int) = 512 := by omega
  clear hV1 hV2
  generalize (b.drop 9).take 2 = b2 at *
  generalize b.take 8 = b8 at *
  generalize b.getD 8 0 = c8 at *
  generalize (dcS b).seq = sq at *
  generalize (dcS b).last = la at *
  generalize (dcS b).text = tt at *
  generalize dcOk b = ok at *
  generalize dcN b = n at *
  by_cases hn : n ≤ 497
  · have hs4 := hs3 hn
    have hw11 : IntKind.i64.wrap (11 + (n : Int)) = ((11 + n : Nat) : Int) := by rw [wrap_id (by omega)]; omega
    rw [show (11 : Int) + (n : Int) = ((11 + n : Nat) : Int) by omega] at hs4
    generalize 11 + n = m at *
    have Htt := SL.hid (Htl.out hn)
    have hng : decide ((497 : Int) < (n : Int)) = false := decide_eq_false (by omega)
    clear hs3
    cases h1 : (c8 == 1) with
    | true =>
      have Ho2 := SL.hid (show ok = (shP sq la tt == b) by rw [Hok.out, h1, decide_eq_true hn]; rfl)
      rw [h1] at e1
      clear Hok h1 hn
      simp only [Bool.not_true] at e1
      cases hq : (shP sq la tt == b) with
      | true =>
        have Hf := SL.hid (show ok = true by rw [Ho2.out, hq])
        go_enter Tryd.func15, Tryd.ntmps15
        go_wp2_with (first
          | go_skip
          | ((with_reducible (show Go.wpList _ _ _ (Go.Oper.mk _ (.alloc _) _ _ _ _ :: _) _ _)); refine wpl_alloc hE rfl rfl (by simp [go_sem]; rfl) ?_; clear hE; intro b2_ w hE; simp only [Act.eval, Act.put, List.setIfInBounds_toArray, List.set_cons_zero, List.set_cons_succ, getD_lit, List.getD_cons_succ, List.getD_cons_zero, Value.cells] at hE)
          | (go_at_call 57; refine (hV1' _).mono ?_; rintro e w2 ⟨rfl, rfl⟩))
        go_region_law ((go_simp; (refine (hV2' _).mono ?_); (rintro e w2 ⟨rfl, rfl⟩)))
        all_goals
          replace hE := (hE.alloc (.cells #[.int .u64 sq, .bool la, .string ⟨tt.toArray⟩] 24)).drew
          generalize w.heap.size = b5 at *
          generalize (w.alloc (.cells #[.int .u64 sq, .bool la, .string ⟨tt.toArray⟩] 24)).drew = w9 at *
          go_wp2_with (first
            | go_skip
            | ((with_reducible (show Go.wpList _ _ _ (Go.Oper.mk _ (.load 24 _) _ _ _ _ :: _) _ _)); (first | (refine wpl_loadW hE 0 rfl rfl rfl rfl Tryd.isAgg24 Tryd.sizeOf24 rfl ?_) | (refine wpl_loadW hE 1 rfl rfl rfl rfl Tryd.isAgg24 Tryd.sizeOf24 rfl ?_) | (refine wpl_loadW hE 2 rfl rfl rfl rfl Tryd.isAgg24 Tryd.sizeOf24 rfl ?_) | (refine wpl_loadW hE 3 rfl rfl rfl rfl Tryd.isAgg24 Tryd.sizeOf24 rfl ?_) | (refine wpl_loadW hE 4 rfl rfl rfl rfl Tryd.isAgg24 Tryd.sizeOf24 rfl ?_) | (refine wpl_loadW hE 5 rfl rfl rfl rfl Tryd.isAgg24 Tryd.sizeOf24 rfl ?_) | (refine wpl_loadW hE 6 rfl rfl rfl rfl Tryd.isAgg24 Tryd.sizeOf24 rfl ?_) | (refine wpl_loadW hE 7 rfl rfl rfl rfl Tryd.isAgg24 Tryd.sizeOf24 rfl ?_)))
            | (go_at_call 13; refine (rPut_ok la Hsq.out Htt.out hE).mono ?_; clear hE; rintro e w6 ⟨v, rfl, rfl, hE⟩)
            | ((with_reducible (show Go.wpList _ _ _ (Go.Oper.mk _ (.store 24 _ _) _ _ _ _ :: _) _ _)); (first | (refine wpl_storeW hE 0 rfl rfl rfl (xs := [.int .u64 sq, .bool la, .string ⟨tt.toArray⟩]) rfl rfl Tryd.sizeOf24 rfl (by simp [Value.oneCell']) rfl ?_) | (refine wpl_storeW hE 1 rfl rfl rfl (xs := [.int .u64 sq, .bool la, .string ⟨tt.toArray⟩]) rfl rfl Tryd.sizeOf24 rfl (by simp [Value.oneCell']) rfl ?_) | (refine wpl_storeW hE 2 rfl rfl rfl (xs := [.int .u64 sq, .bool la, .string ⟨tt.toArray⟩]) rfl rfl Tryd.sizeOf24 rfl (by simp [Value.oneCell']) rfl ?_) | (refine wpl_storeW hE 3 rfl rfl rfl (xs := [.int .u64 sq, .bool la, .string ⟨tt.toArray⟩]) rfl rfl Tryd.sizeOf24 rfl (by simp [Value.oneCell']) rfl ?_) | (refine wpl_storeW hE 4 rfl rfl rfl (xs := [.int .u64 sq, .bool la, .string ⟨tt.toArray⟩]) rfl rfl Tryd.sizeOf24 rfl (by simp [Value.oneCell']) rfl ?_) | (refine wpl_storeW hE 5 rfl rfl rfl (xs := [.int .u64 sq, .bool la, .string ⟨tt.toArray⟩]) rfl rfl Tryd.sizeOf24 rfl (by simp [Value.oneCell']) rfl ?_) | (refine wpl_storeW hE 6 rfl rfl rfl (xs := [.int .u64 sq, .bool la, .string ⟨tt.toArray⟩]) rfl rfl Tryd.sizeOf24 rfl (by simp [Value.oneCell']) rfl ?_) | (refine wpl_storeW hE 7 rfl rfl rfl (xs := [.int .u64 sq, .bool la, .string ⟨tt.toArray⟩]) rfl rfl Tryd.sizeOf24 rfl (by simp [Value.oneCell']) rfl ?_)); clear hE; intro w hE; simp only [List.set_cons_zero, List.set_cons_succ] at hE))
          refine bodyPost_ret (results_cell2 rfl hE 1 rfl rfl Tryd.isAgg24 Tryd.sizeOf24 rfl rfl) rfl ?_
          rw [Hres.out, HresE.out, Hf.out]
          exact ⟨_, rfl, by rw [if_pos rfl, if_pos rfl, He.out]; rfl, hE.tail.tail⟩
      | false =>
        have Hf := SL.hid (show ok = false by rw [Ho2.out, hq])
        go_enter Tryd.func15, Tryd.ntmps15
        go_wp2_with (first
          | go_skip
          | ((with_reducible (show Go.wpList _ _ _ (Go.Oper.mk _ (.alloc _) _ _ _ _ :: _) _ _)); refine wpl_alloc hE rfl rfl (by simp [go_sem]; rfl) ?_; clear hE; intro b2_ w hE; simp only [Act.eval, Act.put, List.setIfInBounds_toArray, List.set_cons_zero, List.set_cons_succ, getD_lit, List.getD_cons_succ, List.getD_cons_zero, Value.cells] at hE)
          | (go_at_call 57; refine (hV1' _).mono ?_; rintro e w2 ⟨rfl, rfl⟩))
        go_region_law ((go_simp; (refine (hV2' _).mono ?_); (rintro e w2 ⟨rfl, rfl⟩)))
        all_goals
          replace hE := (hE.alloc (.cells #[.int .u64 sq, .bool la, .string ⟨tt.toArray⟩] 24)).drew
          generalize w.heap.size = b5 at *
          generalize (w.alloc (.cells #[.int .u64 sq, .bool la, .string ⟨tt.toArray⟩] 24)).drew = w9 at *
          go_wp2_with (first
            | go_skip
            | ((with_reducible (show Go.wpList _ _ _ (Go.Oper.mk _ (.load 24 _) _ _ _ _ :: _) _ _)); (first | (refine wpl_loadW hE 0 rfl rfl rfl rfl Tryd.isAgg24 Tryd.sizeOf24 rfl ?_) | (refine wpl_loadW hE 1 rfl rfl rfl rfl Tryd.isAgg24 Tryd.sizeOf24 rfl ?_) | (refine wpl_loadW hE 2 rfl rfl rfl rfl Tryd.isAgg24 Tryd.sizeOf24 rfl ?_) | (refine wpl_loadW hE 3 rfl rfl rfl rfl Tryd.isAgg24 Tryd.sizeOf24 rfl ?_) | (refine wpl_loadW hE 4 rfl rfl rfl rfl Tryd.isAgg24 Tryd.sizeOf24 rfl ?_) | (refine wpl_loadW hE 5 rfl rfl rfl rfl Tryd.isAgg24 Tryd.sizeOf24 rfl ?_) | (refine wpl_loadW hE 6 rfl rfl rfl rfl Tryd.isAgg24 Tryd.sizeOf24 rfl ?_) | (refine wpl_loadW hE 7 rfl rfl rfl rfl Tryd.isAgg24 Tryd.sizeOf24 rfl ?_)))
            | (go_at_call 13; refine (rPut_ok la Hsq.out Htt.out hE).mono ?_; clear hE; rintro e w6 ⟨v, rfl, rfl, hE⟩)
            | ((with_reducible (show Go.wpList _ _ _ (Go.Oper.mk _ (.store 24 _ _) _ _ _ _ :: _) _ _)); (first | (refine wpl_storeW hE 0 rfl rfl rfl (xs := [.int .u64 0, .bool false, .string ⟨#[]⟩]) rfl rfl Tryd.sizeOf24 rfl (by simp [Value.oneCell']) rfl ?_) | (refine wpl_storeW hE 1 rfl rfl rfl (xs := [.int .u64 0, .bool false, .string ⟨#[]⟩]) rfl rfl Tryd.sizeOf24 rfl (by simp [Value.oneCell']) rfl ?_) | (refine wpl_storeW hE 2 rfl rfl rfl (xs := [.int .u64 0, .bool false, .string ⟨#[]⟩]) rfl rfl Tryd.sizeOf24 rfl (by simp [Value.oneCell']) rfl ?_) | (refine wpl_storeW hE 3 rfl rfl rfl (xs := [.int .u64 0, .bool false, .string ⟨#[]⟩]) rfl rfl Tryd.sizeOf24 rfl (by simp [Value.oneCell']) rfl ?_) | (refine wpl_storeW hE 4 rfl rfl rfl (xs := [.int .u64 0, .bool false, .string ⟨#[]⟩]) rfl rfl Tryd.sizeOf24 rfl (by simp [Value.oneCell']) rfl ?_) | (refine wpl_storeW hE 5 rfl rfl rfl (xs := [.int .u64 0, .bool false, .string ⟨#[]⟩]) rfl rfl Tryd.sizeOf24 rfl (by simp [Value.oneCell']) rfl ?_) | (refine wpl_storeW hE 6 rfl rfl rfl (xs := [.int .u64 0, .bool false, .string ⟨#[]⟩]) rfl rfl Tryd.sizeOf24 rfl (by simp [Value.oneCell']) rfl ?_) | (refine wpl_storeW hE 7 rfl rfl rfl (xs := [.int .u64 0, .bool false, .string ⟨#[]⟩]) rfl rfl Tryd.sizeOf24 rfl (by simp [Value.oneCell']) rfl ?_)); clear hE; intro w hE; simp only [List.set_cons_zero, List.set_cons_succ] at hE))
          refine bodyPost_ret (results_cell2 rfl hE 1 rfl rfl Tryd.isAgg24 Tryd.sizeOf24 rfl rfl) rfl ?_
          rw [Hres.out, HresE.out, Hf.out]
          exact ⟨_, rfl, rfl, hE.tail.tail⟩
    | false =>
      rw [h1] at e1
      simp only [Bool.not_false] at e1
      cases h2 : (c8 == 2) with
      | true =>
        have Ho2 := SL.hid (show ok = (shP sq la tt == b) by rw [Hok.out, h1, h2, decide_eq_true hn]; rfl)
        rw [h2] at e2
        clear Hok h1 hn h2
        simp only [Bool.not_true] at e2
        cases hq : (shP sq la tt == b) with
        | true =>
          have Hf := SL.hid (show ok = true by rw [Ho2.out, hq])
          go_enter Tryd.func15, Tryd.ntmps15
          go_wp2_with (first
            | go_skip
            | ((with_reducible (show Go.wpList _ _ _ (Go.Oper.mk _ (.alloc _) _ _ _ _ :: _) _ _)); refine wpl_alloc hE rfl rfl (by simp [go_sem]; rfl) ?_; clear hE; intro b2_ w hE; simp only [Act.eval, Act.put, List.setIfInBounds_toArray, List.set_cons_zero, List.set_cons_succ, getD_lit, List.getD_cons_succ, List.getD_cons_zero, Value.cells] at hE)
            | (go_at_call 57; refine (hV1' _).mono ?_; rintro e w2 ⟨rfl, rfl⟩))
          go_region_law ((go_simp; (refine (hV2' _).mono ?_); (rintro e w2 ⟨rfl, rfl⟩)))
          all_goals
            replace hE := (hE.alloc (.cells #[.int .u64 sq, .bool la, .string ⟨tt.toArray⟩] 24)).drew
            generalize w.heap.size = b5 at *
            generalize (w.alloc (.cells #[.int .u64 sq, .bool la, .string ⟨tt.toArray⟩] 24)).drew = w9 at *
            go_wp2_with (first
              | go_skip
              | ((with_reducible (show Go.wpList _ _ _ (Go.Oper.mk _ (.load 24 _) _ _ _ _ :: _) _ _)); (first | (refine wpl_loadW hE 0 rfl rfl rfl rfl Tryd.isAgg24 Tryd.sizeOf24 rfl ?_) | (refine wpl_loadW hE 1 rfl rfl rfl rfl Tryd.isAgg24 Tryd.sizeOf24 rfl ?_) | (refine wpl_loadW hE 2 rfl rfl rfl rfl Tryd.isAgg24 Tryd.sizeOf24 rfl ?_) | (refine wpl_loadW hE 3 rfl rfl rfl rfl Tryd.isAgg24 Tryd.sizeOf24 rfl ?_) | (refine wpl_loadW hE 4 rfl rfl rfl rfl Tryd.isAgg24 Tryd.sizeOf24 rfl ?_) | (refine wpl_loadW hE 5 rfl rfl rfl rfl Tryd.isAgg24 Tryd.sizeOf24 rfl ?_) | (refine wpl_loadW hE 6 rfl rfl rfl rfl Tryd.isAgg24 Tryd.sizeOf24 rfl ?_) | (refine wpl_loadW hE 7 rfl rfl rfl rfl Tryd.isAgg24 Tryd.sizeOf24 rfl ?_)))
              | (go_at_call 13; refine (rPut_ok la Hsq.out Htt.out hE).mono ?_; clear hE; rintro e w6 ⟨v, rfl, rfl, hE⟩)
              | ((with_reducible (show Go.wpList _ _ _ (Go.Oper.mk _ (.store 24 _ _) _ _ _ _ :: _) _ _)); (first | (refine wpl_storeW hE 0 rfl rfl rfl (xs := [.int .u64 sq, .bool la, .string ⟨tt.toArray⟩]) rfl rfl Tryd.sizeOf24 rfl (by simp [Value.oneCell']) rfl ?_) | (refine wpl_storeW hE 1 rfl rfl rfl (xs := [.int .u64 sq, .bool la, .string ⟨tt.toArray⟩]) rfl rfl Tryd.sizeOf24 rfl (by simp [Value.oneCell']) rfl ?_) | (refine wpl_storeW hE 2 rfl rfl rfl (xs := [.int .u64 sq, .bool la, .string ⟨tt.toArray⟩]) rfl rfl Tryd.sizeOf24 rfl (by simp [Value.oneCell']) rfl ?_) | (refine wpl_storeW hE 3 rfl rfl rfl (xs := [.int .u64 sq, .bool la, .string ⟨tt.toArray⟩]) rfl rfl Tryd.sizeOf24 rfl (by simp [Value.oneCell']) rfl ?_) | (refine wpl_storeW hE 4 rfl rfl rfl (xs := [.int .u64 sq, .bool la, .string ⟨tt.toArray⟩]) rfl rfl Tryd.sizeOf24 rfl (by simp [Value.oneCell']) rfl ?_) | (refine wpl_storeW hE 5 rfl rfl rfl (xs := [.int .u64 sq, .bool la, .string ⟨tt.toArray⟩]) rfl rfl Tryd.sizeOf24 rfl (by simp [Value.oneCell']) rfl ?_) | (refine wpl_storeW hE 6 rfl rfl rfl (xs := [.int .u64 sq, .bool la, .string ⟨tt.toArray⟩]) rfl rfl Tryd.sizeOf24 rfl (by simp [Value.oneCell']) rfl ?_) | (refine wpl_storeW hE 7 rfl rfl rfl (xs := [.int .u64 sq, .bool la, .string ⟨tt.toArray⟩]) rfl rfl Tryd.sizeOf24 rfl (by simp [Value.oneCell']) rfl ?_)); clear hE; intro w hE; simp only [List.set_cons_zero, List.set_cons_succ] at hE))
            refine bodyPost_ret (results_cell2 rfl hE 1 rfl rfl Tryd.isAgg24 Tryd.sizeOf24 rfl rfl) rfl ?_
            rw [Hres.out, HresE.out, Hf.out]
            exact ⟨_, rfl, by rw [if_pos rfl, if_pos rfl, He.out]; rfl, hE.tail.tail⟩
        | false =>
          have Hf := SL.hid (show ok = false by rw [Ho2.out, hq])
          go_enter Tryd.func15, Tryd.ntmps15
          go_wp2_with (first
            | go_skip
            | ((with_reducible (show Go.wpList _ _ _ (Go.Oper.mk _ (.alloc _) _ _ _ _ :: _) _ _)); refine wpl_alloc hE rfl rfl (by simp [go_sem]; rfl) ?_; clear hE; intro b2_ w hE; simp only [Act.eval, Act.put, List.setIfInBounds_toArray, List.set_cons_zero, List.set_cons_succ, getD_lit, List.getD_cons_succ, List.getD_cons_zero, Value.cells] at hE)
            | (go_at_call 57; refine (hV1' _).mono ?_; rintro e w2 ⟨rfl, rfl⟩))
          go_region_law ((go_simp; (refine (hV2' _).mono ?_); (rintro e w2 ⟨rfl, rfl⟩)))
          all_goals
            replace hE := (hE.alloc (.cells #[.int .u64 sq, .bool la, .string ⟨tt.toArray⟩] 24)).drew
            generalize w.heap.size = b5 at *
            generalize (w.alloc (.cells #[.int .u64 sq, .bool la, .string ⟨tt.toArray⟩] 24)).drew = w9 at *
            go_wp2_with (first
              | go_skip
              | ((with_reducible (show Go.wpList _ _ _ (Go.Oper.mk _ (.load 24 _) _ _ _ _ :: _) _ _)); (first | (refine wpl_loadW hE 0 rfl rfl rfl rfl Tryd.isAgg24 Tryd.sizeOf24 rfl ?_) | (refine wpl_loadW hE 1 rfl rfl rfl rfl Tryd.isAgg24 Tryd.sizeOf24 rfl ?_) | (refine wpl_loadW hE 2 rfl rfl rfl rfl Tryd.isAgg24 Tryd.sizeOf24 rfl ?_) | (refine wpl_loadW hE 3 rfl rfl rfl rfl Tryd.isAgg24 Tryd.sizeOf24 rfl ?_) | (refine wpl_loadW hE 4 rfl rfl rfl rfl Tryd.isAgg24 Tryd.sizeOf24 rfl ?_) | (refine wpl_loadW hE 5 rfl rfl rfl rfl Tryd.isAgg24 Tryd.sizeOf24 rfl ?_) | (refine wpl_loadW hE 6 rfl rfl rfl rfl Tryd.isAgg24 Tryd.sizeOf24 rfl ?_) | (refine wpl_loadW hE 7 rfl rfl rfl rfl Tryd.isAgg24 Tryd.sizeOf24 rfl ?_)))
              | (go_at_call 13; refine (rPut_ok la Hsq.out Htt.out hE).mono ?_; clear hE; rintro e w6 ⟨v, rfl, rfl, hE⟩)
              | ((with_reducible (show Go.wpList _ _ _ (Go.Oper.mk _ (.store 24 _ _) _ _ _ _ :: _) _ _)); (first | (refine wpl_storeW hE 0 rfl rfl rfl (xs := [.int .u64 0, .bool false, .string ⟨#[]⟩]) rfl rfl Tryd.sizeOf24 rfl (by simp [Value.oneCell']) rfl ?_) | (refine wpl_storeW hE 1 rfl rfl rfl (xs := [.int .u64 0, .bool false, .string ⟨#[]⟩]) rfl rfl Tryd.sizeOf24 rfl (by simp [Value.oneCell']) rfl ?_) | (refine wpl_storeW hE 2 rfl rfl rfl (xs := [.int .u64 0, .bool false, .string ⟨#[]⟩]) rfl rfl Tryd.sizeOf24 rfl (by simp [Value.oneCell']) rfl ?_) | (refine wpl_storeW hE 3 rfl rfl rfl (xs := [.int .u64 0, .bool false, .string ⟨#[]⟩]) rfl rfl Tryd.sizeOf24 rfl (by simp [Value.oneCell']) rfl ?_) | (refine wpl_storeW hE 4 rfl rfl rfl (xs := [.int .u64 0, .bool false, .string ⟨#[]⟩]) rfl rfl Tryd.sizeOf24 rfl (by simp [Value.oneCell']) rfl ?_) | (refine wpl_storeW hE 5 rfl rfl rfl (xs := [.int .u64 0, .bool false, .string ⟨#[]⟩]) rfl rfl Tryd.sizeOf24 rfl (by simp [Value.oneCell']) rfl ?_) | (refine wpl_storeW hE 6 rfl rfl rfl (xs := [.int .u64 0, .bool false, .string ⟨#[]⟩]) rfl rfl Tryd.sizeOf24 rfl (by simp [Value.oneCell']) rfl ?_) | (refine wpl_storeW hE 7 rfl rfl rfl (xs := [.int .u64 0, .bool false, .string ⟨#[]⟩]) rfl rfl Tryd.sizeOf24 rfl (by simp [Value.oneCell']) rfl ?_)); clear hE; intro w hE; simp only [List.set_cons_zero, List.set_cons_succ] at hE))
            refine bodyPost_ret (results_cell2 rfl hE 1 rfl rfl Tryd.isAgg24 Tryd.sizeOf24 rfl rfl) rfl ?_
            rw [Hres.out, HresE.out, Hf.out]
            exact ⟨_, rfl, rfl, hE.tail.tail⟩
      | false =>
        have Hf := SL.hid (show ok = false by rw [Hok.out, h1, h2]; simp)
        rw [h2] at e2
        clear Hok h1 hn h2
        simp only [Bool.not_false] at e2
        go_enter Tryd.func15, Tryd.ntmps15
        go_wp2_with (first
          | go_skip
          | ((with_reducible (show Go.wpList _ _ _ (Go.Oper.mk _ (.alloc _) _ _ _ _ :: _) _ _)); refine wpl_alloc hE rfl rfl (by simp [go_sem]; rfl) ?_; clear hE; intro b2_ w hE; simp only [Act.eval, Act.put, List.setIfInBounds_toArray, List.set_cons_zero, List.set_cons_succ, getD_lit, List.getD_cons_succ, List.getD_cons_zero, Value.cells] at hE)
          | (go_at_call 57; refine (hV1' _).mono ?_; rintro e w2 ⟨rfl, rfl⟩)
          | ((with_reducible (show Go.wpList _ _ _ (Go.Oper.mk _ (.store 24 _ _) _ _ _ _ :: _) _ _)); (first | (refine wpl_storeW hE 0 rfl rfl rfl (xs := [.int .u64 0, .bool false, .string ⟨#[]⟩]) rfl rfl Tryd.sizeOf24 rfl (by simp [Value.oneCell']) rfl ?_) | (refine wpl_storeW hE 1 rfl rfl rfl (xs := [.int .u64 0, .bool false, .string ⟨#[]⟩]) rfl rfl Tryd.sizeOf24 rfl (by simp [Value.oneCell']) rfl ?_) | (refine wpl_storeW hE 2 rfl rfl rfl (xs := [.int .u64 0, .bool false, .string ⟨#[]⟩]) rfl rfl Tryd.sizeOf24 rfl (by simp [Value.oneCell']) rfl ?_) | (refine wpl_storeW hE 3 rfl rfl rfl (xs := [.int .u64 0, .bool false, .string ⟨#[]⟩]) rfl rfl Tryd.sizeOf24 rfl (by simp [Value.oneCell']) rfl ?_) | (refine wpl_storeW hE 4 rfl rfl rfl (xs := [.int .u64 0, .bool false, .string ⟨#[]⟩]) rfl rfl Tryd.sizeOf24 rfl (by simp [Value.oneCell']) rfl ?_) | (refine wpl_storeW hE 5 rfl rfl rfl (xs := [.int .u64 0, .bool false, .string ⟨#[]⟩]) rfl rfl Tryd.sizeOf24 rfl (by simp [Value.oneCell']) rfl ?_) | (refine wpl_storeW hE 6 rfl rfl rfl (xs := [.int .u64 0, .bool false, .string ⟨#[]⟩]) rfl rfl Tryd.sizeOf24 rfl (by simp [Value.oneCell']) rfl ?_) | (refine wpl_storeW hE 7 rfl rfl rfl (xs := [.int .u64 0, .bool false, .string ⟨#[]⟩]) rfl rfl Tryd.sizeOf24 rfl (by simp [Value.oneCell']) rfl ?_)); clear hE; intro w hE; simp only [List.set_cons_zero, List.set_cons_succ] at hE))
        refine bodyPost_ret (results_cell2 rfl hE 0 rfl rfl Tryd.isAgg24 Tryd.sizeOf24 rfl rfl) rfl ?_
        rw [Hres.out, HresE.out, Hf.out]
        exact ⟨_, rfl, rfl, hE.tail⟩
  · have Hf := SL.hid (show ok = false by rw [Hok.out, decide_eq_false hn]; rfl)
    have hng : decide ((497 : Int) < (n : Int)) = true := decide_eq_true (by omega)
    clear hs3 hn
    go_enter Tryd.func15, Tryd.ntmps15
    go_wp2_with (first
      | go_skip
      | ((with_reducible (show Go.wpList _ _ _ (Go.Oper.mk _ (.alloc _) _ _ _ _ :: _) _ _)); refine wpl_alloc hE rfl rfl (by simp [go_sem]; rfl) ?_; clear hE; intro b2_ w hE; simp only [Act.eval, Act.put, List.setIfInBounds_toArray, List.set_cons_zero, List.set_cons_succ, getD_lit, List.getD_cons_succ, List.getD_cons_zero, Value.cells] at hE)
      | (go_at_call 57; refine (hV1' _).mono ?_; rintro e w2 ⟨rfl, rfl⟩)
      | ((with_reducible (show Go.wpList _ _ _ (Go.Oper.mk _ (.store 24 _ _) _ _ _ _ :: _) _ _)); (first | (refine wpl_storeW hE 0 rfl rfl rfl (xs := [.int .u64 0, .bool false, .string ⟨#[]⟩]) rfl rfl Tryd.sizeOf24 rfl (by simp [Value.oneCell']) rfl ?_) | (refine wpl_storeW hE 1 rfl rfl rfl (xs := [.int .u64 0, .bool false, .string ⟨#[]⟩]) rfl rfl Tryd.sizeOf24 rfl (by simp [Value.oneCell']) rfl ?_) | (refine wpl_storeW hE 2 rfl rfl rfl (xs := [.int .u64 0, .bool false, .string ⟨#[]⟩]) rfl rfl Tryd.sizeOf24 rfl (by simp [Value.oneCell']) rfl ?_) | (refine wpl_storeW hE 3 rfl rfl rfl (xs := [.int .u64 0, .bool false, .string ⟨#[]⟩]) rfl rfl Tryd.sizeOf24 rfl (by simp [Value.oneCell']) rfl ?_) | (refine wpl_storeW hE 4 rfl rfl rfl (xs := [.int .u64 0, .bool false, .string ⟨#[]⟩]) rfl rfl Tryd.sizeOf24 rfl (by simp [Value.oneCell']) rfl ?_) | (refine wpl_storeW hE 5 rfl rfl rfl (xs := [.int .u64 0, .bool false, .string ⟨#[]⟩]) rfl rfl Tryd.sizeOf24 rfl (by simp [Value.oneCell']) rfl ?_) | (refine wpl_storeW hE 6 rfl rfl rfl (xs := [.int .u64 0, .bool false, .string ⟨#[]⟩]) rfl rfl Tryd.sizeOf24 rfl (by simp [Value.oneCell']) rfl ?_) | (refine wpl_storeW hE 7 rfl rfl rfl (xs := [.int .u64 0, .bool false, .string ⟨#[]⟩]) rfl rfl Tryd.sizeOf24 rfl (by simp [Value.oneCell']) rfl ?_)); clear hE; intro w hE; simp only [List.set_cons_zero, List.set_cons_succ] at hE))
    refine bodyPost_ret (results_cell2 rfl hE 0 rfl rfl Tryd.isAgg24 Tryd.sizeOf24 rfl rfl) rfl ?_
    rw [Hres.out, HresE.out, Hf.out]
    exact ⟨_, rfl, rfl, hE.tail⟩
end Go.Proofs.YtdpfigkjkjjedaaDoor
namespace Go.SL
open Go.RowKit
section
variable {P : Program}

/-- AN ITERATOR THAT GIVES xs, ITS OWN HEAP BEING st: whatever else lies there (J), and whatever a round makes of that. -/
def SeqSL {α : Type} (P : Program) (gf : Nat) (lb : Array Value) (encs : α → Array Value) (xs : List α) (st : List α → List HProp) : Prop :=
  ∀ (lp : Nat) (J Jx : List α → List HProp) (W : World), Ent (st [] ++ J []) W →
    (∀ pre x W1, pre ++ [x] <+: xs → Ent (st pre ++ J pre) W1 → YieldAt Fence.wide 0 P lp (encs x) W1 fun e W' =>
      (e = .returned (.bool true) ∧ Ent (st pre ++ J (pre ++ [x])) W') ∨ (e = .returned (.bool false) ∧ Ent (Jx (pre ++ [x])) W')) →
    CallsIn Fence.wide 0 P gf (#[.func (.yield lp) #[] #[]] ++ lb) W fun e W' => (∃ v, e = .returned v) ∧ (Ent (J xs) W' ∨ ∃ pre, pre <+: xs ∧ Ent (Jx pre) W')

/-- how a round's body may be left -/
def roundSL {α : Type} (I : List α → List HProp) (Ix : Code → List α → List HProp) (L : List HProp) (ys : List α) : Exit → Act → World → Prop
  | .normal, _, W => Ent (I ys ++ L) W
  | .ret, _, W => Ent (Ix .ret ys ++ L) W
  | .exit id, _, W => Ent (Ix (.exit id) ys ++ L) W
  | _, _, _ => False

theorem perm_2 {l m : List HProp} {A B : HProp} : (l ++ (m ++ [A, B])).Perm (A :: B :: (l ++ m)) := by
  rw [← List.append_assoc]
  exact (List.perm_append_comm (l₁ := l ++ m) (l₂ := [A, B]))
theorem perm_2' {l m : List HProp} {A B : HProp} : (A :: B :: (l ++ m)).Perm (l ++ (m ++ [A, B])) := perm_2.symm
theorem perm_3 {l m : List HProp} {A B : HProp} : (m ++ (A :: B :: l)).Perm (A :: B :: (l ++ m)) := by
  refine (List.perm_append_comm (l₁ := m) (l₂ := A :: B :: l)).trans ?_
  exact List.Perm.refl _

theorem wpIn_rangeSL {α : Type} {g : Operand} {ps : Array Tmp} {assign body : Code} {Q : Exit → Act → World → Prop} {a : Act} {w : World} {gf : Nat} {lb : Array Value}
    (hg : a.eval g = .func (.func gf) #[] lb) (eg : ∀ args w, (callFunc gf args).run P w = .ok (.enter gf args) w)
    {encs : α → Array Value} {xs : List α} {st : List α → List HProp} (hseq : SeqSL P gf lb encs xs st) (hps : ∀ x, (encs x).size = ps.size)
    (I : List α → List HProp) (Ix : Code → List α → List HProp) (hE : Ent (st [] ++ I []) w) (a₁ : α → Act)
    (hassign : ∀ (lp : Nat) (x : α) (W : World) (K : Act → World → Prop), K (a₁ x) W →
      assign.wpIn (Fence.wide.inRound lp) 0 P (Exit.then K (fun _ _ _ => False)) { tmps := (ps.zip (encs x)).foldl (fun t (p, v) => t.setIfInBounds p v) a.tmps, defers := [] } W)
    (hbody : ∀ (lp : Nat) (pre : List α) (x : α) (W : World) (L : List HProp), pre ++ [x] <+: xs → Ent (I pre ++ L) W → body.wpIn (Fence.wide.inRound lp) 0 P (roundSL I Ix L (pre ++ [x])) (a₁ x) W)
    (hdone : ∀ (D : Nat) (W : World), Ent (pt D (.deferred (some [])) :: I xs) W → Q .normal { a with defers := { target := .collected D, args := #[] } :: a.defers } W)
    (hstop : ∀ (D : Nat) (c : Code) (pre : List α) (W : World), pre <+: xs → Ent (pt D (.deferred (some [])) :: Ix c pre) W → c.wpIn Fence.wide 0 P Q { a with defers := { target := .collected D, args := #[] } :: a.defers } W) :
    (Code.rangeFunc g ps assign body).wpIn Fence.wide 0 P Q a w := by
  refine wpIn_rangeFunc ?_
  intro fn hfn
  obtain ⟨d, hd⟩ : ∃ d, d = w.heap.size := ⟨_, rfl⟩
  obtain ⟨rc, hrc⟩ : ∃ rc : LoopState → Option Code → Loop, rc = fun s p => { state := s, pending := p, fn, tmps := a.tmps, params := ps, assign, body, defers := d } := ⟨_, rfl⟩
  have h1 : Ent (pt (d + 1) (.loop (rc .ready none)) :: pt d (.deferred (some [])) :: (st [] ++ I [])) ((w.alloc (.deferred (some []))).alloc (.loop (rc .ready none))) := by
    have := (hE.alloc (.deferred (some []))).alloc (.loop (rc .ready none))
    rwa [World.size_alloc, ← hd] at this
  generalize hW1 : (w.alloc (.deferred (some []))).alloc (.loop (rc .ready none)) = W1 at h1
  refine ⟨d + 1, [{ target := .collected d, args := #[] }], W1, { target := .fn (.func gf) lb, args := #[.func (.yield (d + 1)) #[] #[]] }, W1, gf, #[.func (.yield (d + 1)) #[] #[]] ++ lb, W1, ?_, ?_, fun _ _ => trivial, ?_, fun h => (by cases h), ?_⟩
  · rw [← hW1, hrc, hd]; exact run_enterLoop_outer _ _ _ _ _
  · simp only [resolve, hg]
    simp [go_sem]
  · simp [invoke, go_sem, eg]
  · refine (hseq (d + 1) (fun pre => I pre ++ [pt (d + 1) (.loop (rc .ready none)), pt d (.deferred (some []))]) (fun pre => [ex fun c => Ix c pre ++ [pt (d + 1) (.loop (rc .done (some c))), pt d (.deferred (some []))]]) W1 (h1.perm perm_2') ?_).mono ?_
    · rintro pre x W hpre hW
      replace hW := hW.perm perm_2
      have hy := run_yield (P := P) (args := encs x) hW.head (by rw [hrc]; exact hps x)
      rw [hrc] at hy
      refine ⟨fn, _, assign, body, hy, roundIn_of_wpIn trivial (hassign _ x W _ ?_)⟩
      clear hy
      refine ⟨_, run_beginRound hW.head (by rw [hrc]), ?_⟩
      have hb : Ent (pt (d + 1) (.loop { rc .ready none with state := .busy }) :: pt d (.deferred (some [])) :: (st pre ++ I pre)) (W.putObj (d + 1) (.loop { rc .ready none with state := .busy })) := hW.setMap 0 rfl
      refine wpIn_mono (hbody _ pre x _ (pt (d + 1) (.loop { rc .ready none with state := .busy }) :: pt d (.deferred (some [])) :: st pre) hpre (hb.perm perm_3.symm)) ?_
      rintro e a3 W3 hp
      cases e with
      | normal =>
        have h3 : Ent _ W3 := Ent.perm hp perm_3
        refine ⟨_, _, run_endRound none h3.head, .inl ⟨rfl, ?_⟩⟩
        have h4 := h3.setMap 0 (ob' := .loop { { rc .ready none with state := .busy } with state := if (none : Option Code).isNone then .ready else .done, pending := none }) rfl
        rw [hrc] at h4 ⊢
        exact Ent.perm h4 perm_2'
      | ret =>
        have h3 : Ent _ W3 := (Ent.perm hp perm_3)
        refine ⟨_, _, run_endRound (some .ret) h3.head, .inr ⟨rfl, ?_⟩⟩
        have h4 := h3.setMap 0 (ob' := .loop { { rc .ready none with state := .busy } with state := if (some Code.ret).isNone then .ready else .done, pending := some .ret }) rfl
        rw [hrc] at h4 ⊢
        exact Ent.pack (l := []) Code.ret (by rw [List.append_nil]; exact (Ent.perm h4 perm_2').drop)
      | exit id =>
        have h3 : Ent _ W3 := (Ent.perm hp perm_3)
        refine ⟨_, _, run_endRound (some (.exit id)) h3.head, .inr ⟨rfl, ?_⟩⟩
        have h4 := h3.setMap 0 (ob' := .loop { { rc .ready none with state := .busy } with state := if (some (Code.exit id)).isNone then .ready else .done, pending := some (.exit id) }) rfl
        rw [hrc] at h4 ⊢
        exact Ent.pack (l := []) (Code.exit id) (by rw [List.append_nil]; exact (Ent.perm h4 perm_2').drop)
      | goto t => exact hp.elim
      | panic ch => exact hp.elim
      | outgrown => exact hp.elim
    · rintro e W2 ⟨⟨v, rfl⟩, hJ | ⟨pre, hpre, hJ⟩⟩
      · have h3 := Ent.perm hJ (perm_2 (l := []))
        refine ⟨none, _, by have := run_endLoop (P := P) h3.head (by rw [hrc]; simp); rw [hrc] at this; exact this, ?_⟩
        have h4 := h3.setMap 0 (ob' := .loop { rc .ready none with state := .exhausted }) rfl
        rw [hrc] at h4
        exact hdone d _ h4.tail
      · obtain ⟨c, hJ⟩ := hJ.unpack
        rw [List.append_nil] at hJ
        have h3 := Ent.perm hJ (perm_2 (l := []))
        refine ⟨some c, _, by have := run_endLoop (P := P) h3.head (by rw [hrc]; simp); rw [hrc] at this; exact this, ?_⟩
        have h4 := h3.setMap 0 (ob' := .loop { rc .done (some c) with state := .exhausted }) rfl
        rw [hrc] at h4
        exact hstop d c pre _ hpre h4.tail

/-- a function whose body holds a range over a function -/
theorem calls_of_marks {f : FuncId} {fn : Func} {c : Code} {args : Array Value} {w : World} {R : Ending → World → Prop} (hf : P.funcs[f]? = some fn) (hb : fn.body = some c)
    (h : c.wp P (bodyPostM Fence.wide 0 P fn R) { tmps := args ++ Array.replicate (fn.ntmps - args.size) undef, defers := [] } w) : Calls P f args w R :=
  callsIn_wide.1 (callsIn_of_wp_marks hf hb trivial (wpIn_wide.2 h) rfl)
theorem post_none {fn : Func} {R : Ending → World → Prop} {a : Act} {w : World} {v : Value} (hd : a.defers = []) (hr : (results fn a.tmps).run P w = .ok v w) (h : R (.returned v) w) : bodyPostM Fence.wide 0 P fn R .ret a w := by
  show LeavesInM Fence.wide 0 P fn a.tmps R a.defers .returning w
  rw [hd]
  exact ⟨v, hr, h⟩
theorem post_mark {fn : Func} {R : Ending → World → Prop} {a : Act} {w : World} {D : Nat} {l : List HProp} (hd : a.defers = [{ target := .collected D, args := #[] }]) (hE : Ent (pt D (.deferred (some [])) :: l) w)
    (h : ∀ w', Ent l w' → ∃ v, (results fn a.tmps).run P w' = .ok v w' ∧ R (.returned v) w') : bodyPostM Fence.wide 0 P fn R .ret a w := by
  show LeavesInM Fence.wide 0 P fn a.tmps R a.defers .returning w
  rw [hd]
  refine ⟨by simp, .inl ⟨_, _, rfl, run_takeDeferred hE.head, ?_⟩⟩
  exact h _ (hE.setMap 0 (ob' := .deferred none) rfl).tail

/-- one operation in a round, walked as anywhere -/
theorem wplIn_one {F : Fence} {n : Nat} {ops : Array Oper} {Q : Exit → Act → World → Prop} {o : Oper} {rest : List Oper} {a : Act} {w : World} (hF : F.fn = fun _ => True) (hdp : F.depth = none) (hal : F.alive = false) (hnd : ∀ c, o.op ≠ .defer c) (hlo : ¬ ∃ a w, Q .outgrown a w)
    (h : wpList P ops (fun e a w => match e with | .normal => wpListIn F n P ops Q rest a w | e => Q e a w) [o] a w) : wpListIn F n P ops Q (o :: rest) a w := by
  have e1 : Machine.fenced P F = Machine.fenced P Fence.wide := by
    funext m
    simp only [Machine.fenced, hF, hdp, hal, Fence.room, Fence.wide]
  have hCI : ∀ {f args w R}, Calls P f args w R → CallsIn F (n - 1) P f args w R := fun {f args w R} h => by
    refine ⟨by rw [hF]; trivial, fun cs _ => ?_⟩
    obtain ⟨e, w', fr, r, s, x⟩ := (callsIn_wide (n := n - 1)).2 h |>.2 cs (room_wide _)
    exact ⟨e, w', fr, r, by rw [e1]; exact s, x⟩
  unfold wpList at h
  unfold wpListIn
  split
  · rename_i hw
    rw [if_pos hw] at h
    replace h := h.resolve_right (fun hh => hlo hh.2)
    refine ⟨fun _ _ => by rw [hF]; trivial, ?_⟩
    have hs : o.semAt F.round a.eval = execOp a.eval o := by
      cases hr : F.round with
      | none => simp [Oper.semAt_none]
      | some l => exact Oper.semAt_some l _ o hnd
    rw [hs]
    unfold Oper.wp at h
    generalize (execOp a.eval o).run P w = r at h
    unfold Oper.upon at h
    unfold Oper.uponIn
    split at h
    · exact h
    · exact h
    · exact h
    · refine ⟨fun hh => (by rw [hdp] at hh; cases hh), (hCI h).mono ?_⟩
      intro e w2 h2
      cases e with
      | returned v => exact h2
      | panicked ch => exact h2
      | outgrown => exact h2
    · refine ⟨fun hh => (by rw [hdp] at hh; cases hh), fun c cs _ => ?_⟩
      obtain ⟨v, w', r, s⟩ := h c cs
      exact ⟨v, w', r, by rw [e1]; exact stepsIn_wide.2 s⟩
    · exact h
    · exact h.elim
  · rename_i hw
    rw [if_neg hw] at h
    exact ⟨fun _ _ => by rw [hF]; trivial, h⟩
theorem wplIn_nil {F : Fence} {n : Nat} {ops : Array Oper} {Q : Exit → Act → World → Prop} {rest : List Oper} {a : Act} {w : World} (h : wpListIn F n P ops Q rest a w) :
    wpList P ops (fun e a w => match e with | .normal => wpListIn F n P ops Q rest a w | e => Q e a w) [] a w := h
end
end Go.SL
namespace Go.Proofs.YtdpfigkjkjjedaaDoor
open Go.RowKit Go.SL

theorem wide_fn (f : FuncId) : Fence.wide.fn f = True := rfl
theorem wide_depth : Fence.wide.depth = none := rfl
attribute [local go_sem] Oper.semAt_some wide_fn wide_depth

/-- the iterator's own heap: what is left of the text, the next number -/
def cutSt (seq : Nat) (t : List UInt8) (bt bs : Nat) (pre : List Sht) : List HProp :=
  [pt bt (.cells #[.string ⟨(t.drop (497 * pre.length)).toArray⟩] 9), pt bs (.cells #[.int .u64 ((seq + pre.length) % 18446744073709551616 : Nat)] 22)]
theorem cut_any (seq : Nat) (hs : seq < 18446744073709551616) (t : List UInt8) {l : List HProp} {w : World} (hE : Ent l w) :
    Calls Tryd.prog 59 #[.int .u64 seq, .string ⟨t.toArray⟩] w (Ret fun v w' => ∃ bt bs, v = .func (.func 103) #[] #[.pointer (some ⟨bt, 0, none⟩), .pointer (some ⟨bs, 0, none⟩)] ∧ Ent (cutSt seq t bt bs [] ++ l) w') := by
  go_enter Tryd.func59, Tryd.ntmps59
  go_wp2_with (first
    | go_skip
    | ((with_reducible (show Go.wpList _ _ _ (Go.Oper.mk _ (.box _ (.tmp 0)) _ _ _ _ :: _) _ _)); refine wpl_box hE rfl rfl rfl ?_; clear hE; intro b0 w hE1)
    | ((with_reducible (show Go.wpList _ _ _ (Go.Oper.mk _ (.box _ (.tmp 1)) _ _ _ _ :: _) _ _)); refine wpl_box hE1 rfl rfl rfl ?_; clear hE1; intro b1 w hE2))
  go_ret
  refine ⟨_, rfl, b1, b0, rfl, ?_⟩
  have e : (seq + ([] : List Sht).length) % 18446744073709551616 = seq := by simp; omega
  rw [cutSt, e]
  exact hE2

theorem pieces_snoc (seq : Nat) (t : List UInt8) (k : Nat) : (List.range k).map (pieceAt seq t) ++ [pieceAt seq t k] = (List.range (k + 1)).map (pieceAt seq t) := by
  rw [List.range_succ, List.map_append]; rfl
theorem pieces_pre (seq : Nat) (t : List UInt8) {k : Nat} (h : k ≤ needN t.length) : (List.range k).map (pieceAt seq t) <+: cutL seq t := by
  rw [cutL]
  obtain ⟨d, hd⟩ : ∃ d, needN t.length = k + d := ⟨needN t.length - k, by omega⟩
  rw [hd, List.range_add, List.map_append]
  exact List.prefix_append _ _
def strLeft (b : Nat) (w : World) : Nat := match w.cell? ⟨b, 0, none⟩ with
  | some (.string s) => s.size
  | _ => 0
theorem strLeft_eq {b : Nat} {w : World} {s : List UInt8} (h : w.cell? ⟨b, 0, none⟩ = some (.string ⟨s.toArray⟩)) : strLeft b w = s.length := by
  unfold strLeft
  rw [h]
  exact bytes_size s
theorem seq_next (x : Nat) (h : x < 18446744073709551616) : IntKind.u64.wrap ((x : Int) + 1) = (((x + 1) % 18446744073709551616 : Nat) : Int) := by
  simp only [IntKind.wrap, IntKind.bits, IntKind.signed]
  simp

theorem pt_ne {a b : Nat} {x y : Obj} {l : List HProp} {w : World} (h : Ent (pt a x :: pt b y :: l) w) : a ≠ b := by
  unfold Ent pt at h
  obtain ⟨F, F1, F2, h1, ⟨F3, F4, h3, _, _, hF2⟩, hd, _⟩ := h
  rintro rfl
  exact hd a ((h1.2 a).2 rfl) ((hF2 a).2 (.inl ((h3.2 a).2 rfl)))
set_option maxRecDepth 100000 in
set_option maxHeartbeats 4000000 in
theorem cut_iter (seq : Nat) (t : List UInt8) (ht : t.length ≤ 1000000) (bt bs : Nat) :
    SeqSL Tryd.prog 103 #[.pointer (some ⟨bt, 0, none⟩), .pointer (some ⟨bs, 0, none⟩)] (fun s : Sht => #[shV s]) (cutL seq t) (cutSt seq t bt bs) := by
  intro lp J Jx W hW hY
  refine callsIn_of_wp Tryd.func103 rfl trivial ?_ rfl
  simp only [Tryd.ntmps103, List.size_toArray, List.length_cons, List.length_nil, Nat.reduceAdd, Nat.reduceSub, Array.replicate_succ, Array.replicate_zero, List.push_toArray, List.append_toArray, List.nil_append, List.cons_append]
  gi_wp2
  gi_loopw [4] (fun _ wr => ∃ k, k < needN t.length ∧ Ent (cutSt seq t bt bs ((List.range k).map (pieceAt seq t)) ++ J ((List.range k).map (pieceAt seq t))) wr) (fun _ wr => strLeft bt wr)
  case atStart => exact ⟨0, needN_pos _, hW⟩
  case round =>
    obtain ⟨k, hk, hE⟩ := hrel
    have hpre := pieces_pre seq t (k := k + 1) hk
    rw [← pieces_snoc] at hpre
    have hlen : ((List.range k).map (pieceAt seq t)).length = k := by simp
    have hmx : Tryd.prog.follows .mixedOrders = true := by kernel_rfl
    have c0 := fun (w : World) (h : Ent (cutSt seq t bt bs ((List.range k).map (pieceAt seq t)) ++ J ((List.range k).map (pieceAt seq t))) w) => by have := h.cell 0 rfl 0; rw [hlen] at this; exact (this : w.cell? ⟨bt, 0, none⟩ = some (.string ⟨(t.drop (497 * k)).toArray⟩))
    have c1 := fun (w : World) (h : Ent (cutSt seq t bt bs ((List.range k).map (pieceAt seq t)) ++ J ((List.range k).map (pieceAt seq t))) w) => by have := h.cell 1 rfl 0; rw [hlen] at this; exact (this : w.cell? ⟨bs, 0, none⟩ = some (.int .u64 ((seq + k) % 18446744073709551616 : Nat)))
    have Hm := SL.hid (need_more hk)
    have hcl : (t.drop (497 * k)).length = t.length - 497 * k := List.length_drop
    have hcl2 : (t.drop (497 * k)).length ≤ 1000000 := by omega
    have hsq : (seq + k) % 18446744073709551616 < 18446744073709551616 := by omega
    by_cases hmore : k + 1 < needN t.length
    · have Hp := SL.hid (piece_more (seq := seq) hmore)
      have k0 := c0 wr hE
      have k0d := c0 _ hE.drew
      have k1d := c1 _ hE.drew
      obtain ⟨fn, tmps, assign, body, hy, hR⟩ := hY _ _ wr.drew hpre hE.drew
      clear c0 c1 hY
      rw [Hp.out] at hy
      have hlt : decide ((497 : Int) < ((t.drop (497 * k)).length : Int)) = true := decide_eq_true (by have := Hm.out.1 hmore; omega)
      have hs1 : ∀ w, (Instr.sliceAt 9 (.string ⟨(t.drop (497 * k)).toArray⟩) none (some (.int .i64 497)) none).run Tryd.prog w = .ok (.string ⟨((t.drop (497 * k)).take 497).toArray⟩) w := fun w => run_slice_sHi (P := Tryd.prog) Tryd.underlying9 (bs := t.drop (497 * k)) (k := 497) (by have := Hm.out.1 hmore; omega) w
      have hs2 : ∀ w, (Instr.sliceAt 9 (.string ⟨(t.drop (497 * k)).toArray⟩) (some (.int .i64 497)) none none).run Tryd.prog w = .ok (.string ⟨((t.drop (497 * k)).drop 497).toArray⟩) w := fun w => run_slice_sLo (P := Tryd.prog) Tryd.underlying9 (bs := t.drop (497 * k)) (k := 497) (by have := Hm.out.1 hmore; omega) w
      have hsn := seq_next _ hsq
      have Hx := SL.hid (show ((seq + k) % 18446744073709551616 + 1) % 18446744073709551616 = (seq + (k + 1)) % 18446744073709551616 by omega)
      have Hd := SL.hid (show (t.drop (497 * k)).drop 497 = t.drop (497 * (k + 1)) by rw [List.drop_drop]; congr 1)
      have Hcl := SL.hid (show 497 < (t.drop (497 * k)).length by have := Hm.out.1 hmore; omega)
      have Hcd := SL.hid (show ((t.drop (497 * k)).drop 497).length = (t.drop (497 * k)).length - 497 from List.length_drop)
      have K0 := SL.hid k0
      clear hcl
      generalize hS0 : (seq + k) % 18446744073709551616 = sq at *
      have HS0 := SL.hid hS0
      clear hS0
      generalize (sq + 1) % 18446744073709551616 = sq' at *
      generalize hD0 : t.drop (497 * k) = cur at *
      have HD0 := SL.hid hD0
      clear hD0
      generalize cur.take 497 = p at *
      generalize cur.drop 497 = cur' at *
      simp only [shV] at hy
      gi_wp2
      have hR2 := hR.mono (R' := fun e W' => ∃ bb, e = Ending.returned (.bool bb) ∧ (bb = true → Ent (cutSt seq t bt bs ((List.range k).map (pieceAt seq t)) ++ J ((List.range k).map (pieceAt seq t) ++ [pieceAt seq t k])) W') ∧ (bb = false → Ent (Jx ((List.range k).map (pieceAt seq t) ++ [pieceAt seq t k])) W')) (by
        rintro e W3 (⟨rfl, h⟩ | ⟨rfl, h⟩)
        · exact ⟨true, rfl, fun _ => h, fun h => by cases h⟩
        · exact ⟨false, rfl, fun h => (by cases h), fun _ => h⟩)
      clear hR
      gi_region_with_o (refine hR2.mono ?_; rintro e W3 ⟨bb, rfl, hT, hF⟩)
      all_goals
        clear k0 k0d k1d hs1 hy hE
        cases bb with
        | true =>
          have hE3 := hT rfl
          have hne := pt_ne hE3
          have hne2 := Ne.symm hne
          have j0 : W3.cell? ⟨bt, 0, none⟩ = some (.string ⟨cur.toArray⟩) := by have := hE3.cell 0 rfl 0; rw [hlen, HD0.out] at this; exact this
          have j1 : W3.cell? ⟨bs, 0, none⟩ = some (.int .u64 sq) := by have := hE3.cell 1 rfl 0; rw [hlen, HS0.out] at this; exact this
          have f0 : W3.frozen? ⟨bt, 0, none⟩ = false := hE3.frozen 0 rfl 0
          have f1 : W3.frozen? ⟨bs, 0, none⟩ = false := hE3.frozen 1 rfl 0
          clear hF hT
          gi_wp2
          go_roundw
          case rel =>
            have h := (hE3.setCell 1 rfl 0 (.int .u64 sq')).setCell 0 rfl 0 (.string ⟨cur'.toArray⟩)
            rw [pieces_snoc] at h
            refine ⟨k + 1, hmore, ?_⟩
            have hlen2 : ((List.range (k + 1)).map (pieceAt seq t)).length = k + 1 := by simp
            rw [cutSt, hlen2, ← Hd.out, ← Hx.out]
            exact h
          case measure =>
            have h := (hE3.setCell 1 rfl 0 (.int .u64 sq')).setCell 0 rfl 0 (.string ⟨cur'.toArray⟩)
            rw [strLeft_eq K0.out, strLeft_eq (h.cell 0 rfl 0), Hcd.out]
            have := Hcl.out
            omega
        | false =>
          have hE3 := hF rfl
          clear hF hT
          gi_wp2
          refine bodyPost_ret (results_none rfl _ _ _) rfl ?_
          exact ⟨⟨_, rfl⟩, .inr ⟨_, hpre, hE3⟩⟩
    · have hlast : k + 1 = needN t.length := by omega
      have Hp := SL.hid (piece_last (seq := seq) hlast)
      have k0 := c0 wr hE
      have k1 := c1 wr hE
      have hJ := SL.hid (show cutL seq t = (List.range k).map (pieceAt seq t) ++ [pieceAt seq t k] by rw [pieces_snoc, cutL, hlast])
      obtain ⟨fn, tmps, assign, body, hy, hR⟩ := hY _ _ wr hpre hE
      clear c0 c1 hY
      rw [Hp.out] at hy
      have hlt : decide ((497 : Int) < ((t.drop (497 * k)).length : Int)) = false := decide_eq_false (by have := Hm.out; omega)
      have Hcl := SL.hid hcl
      clear hcl
      generalize (seq + k) % 18446744073709551616 = sq at *
      generalize t.drop (497 * k) = cur at *
      simp only [shV] at hy
      gi_wp2
      refine hR.mono ?_
      rintro e W3 (⟨rfl, hE3⟩ | ⟨rfl, hE3⟩)
      · gi_wp2
        go_end0
        exact ⟨⟨_, rfl⟩, .inl (by rw [hJ.out]; exact hE3.drop)⟩
      · gi_wp2
        go_end0
        exact ⟨⟨_, rfl⟩, .inr ⟨_, by rw [hJ.out]; exact List.prefix_rfl, hE3⟩⟩
end Go.Proofs.YtdpfigkjkjjedaaDoor
namespace Go.SL
open Go.RowKit
section
variable {P : Program}
theorem wpIn_rangeSLB {α β : Type} {g : Operand} {ps : Array Tmp} {assign body : Code} {Q : Exit → Act → World → Prop} {a : Act} {w : World} {gf : Nat} {lb : Array Value}
    (hg : a.eval g = .func (.func gf) #[] lb) (eg : ∀ args w, (callFunc gf args).run P w = .ok (.enter gf args) w)
    {encs : α → Array Value} {xs : List α} {st : List α → List HProp} (hseq : SeqSL P gf lb encs xs st) (hps : ∀ x, (encs x).size = ps.size)
    (I : List α → List HProp) (Ix : Code → List α → List HProp) (hE : Ent (st [] ++ I []) w) (a₁ : α → β → Act) (B : α → β → List HProp)
    (hassign : ∀ (lp : Nat) (x : α) (W : World) (L : List HProp) (K : Act → World → Prop), Ent L W → (∀ y W', Ent (B x y ++ L) W' → K (a₁ x y) W') →
      assign.wpIn (Fence.wide.inRound lp) 0 P (Exit.then K (fun _ _ _ => False)) { tmps := (ps.zip (encs x)).foldl (fun t (p, v) => t.setIfInBounds p v) a.tmps, defers := [] } W)
    (hbody : ∀ (lp : Nat) (pre : List α) (x : α) (y : β) (W : World) (L : List HProp), pre ++ [x] <+: xs → Ent (B x y ++ (I pre ++ L)) W → body.wpIn (Fence.wide.inRound lp) 0 P (roundSL I Ix L (pre ++ [x])) (a₁ x y) W)
    (hdone : ∀ (D : Nat) (W : World), Ent (pt D (.deferred (some [])) :: I xs) W → Q .normal { a with defers := { target := .collected D, args := #[] } :: a.defers } W)
    (hstop : ∀ (D : Nat) (c : Code) (pre : List α) (W : World), pre <+: xs → Ent (pt D (.deferred (some [])) :: Ix c pre) W → c.wpIn Fence.wide 0 P Q { a with defers := { target := .collected D, args := #[] } :: a.defers } W) :
    (Code.rangeFunc g ps assign body).wpIn Fence.wide 0 P Q a w := by
  refine wpIn_rangeFunc ?_
  intro fn hfn
  obtain ⟨d, hd⟩ : ∃ d, d = w.heap.size := ⟨_, rfl⟩
  obtain ⟨rc, hrc⟩ : ∃ rc : LoopState → Option Code → Loop, rc = fun s p => { state := s, pending := p, fn, tmps := a.tmps, params := ps, assign, body, defers := d } := ⟨_, rfl⟩
  have h1 : Ent (pt (d + 1) (.loop (rc .ready none)) :: pt d (.deferred (some [])) :: (st [] ++ I [])) ((w.alloc (.deferred (some []))).alloc (.loop (rc .ready none))) := by
    have := (hE.alloc (.deferred (some []))).alloc (.loop (rc .ready none))
    rwa [World.size_alloc, ← hd] at this
  generalize hW1 : (w.alloc (.deferred (some []))).alloc (.loop (rc .ready none)) = W1 at h1
  refine ⟨d + 1, [{ target := .collected d, args := #[] }], W1, { target := .fn (.func gf) lb, args := #[.func (.yield (d + 1)) #[] #[]] }, W1, gf, #[.func (.yield (d + 1)) #[] #[]] ++ lb, W1, ?_, ?_, fun _ _ => trivial, ?_, fun h => (by cases h), ?_⟩
  · rw [← hW1, hrc, hd]; exact run_enterLoop_outer _ _ _ _ _
  · simp only [resolve, hg]
    simp [go_sem]
  · simp [invoke, go_sem, eg]
  · refine (hseq (d + 1) (fun pre => I pre ++ [pt (d + 1) (.loop (rc .ready none)), pt d (.deferred (some []))]) (fun pre => [ex fun c => Ix c pre ++ [pt (d + 1) (.loop (rc .done (some c))), pt d (.deferred (some []))]]) W1 (h1.perm perm_2') ?_).mono ?_
    · rintro pre x W hpre hW
      replace hW := hW.perm perm_2
      have hy := run_yield (P := P) (args := encs x) hW.head (by rw [hrc]; exact hps x)
      rw [hrc] at hy
      refine ⟨fn, _, assign, body, hy, roundIn_of_wpIn trivial (hassign _ x W _ _ hW fun y W' hW' => ?_)⟩
      clear hy
      replace hW := hW'.perm List.perm_middle
      clear hW'
      refine ⟨_, run_beginRound hW.head (by rw [hrc]), ?_⟩
      have hb : Ent (pt (d + 1) (.loop { rc .ready none with state := .busy }) :: (B x y ++ (pt d (.deferred (some [])) :: (st pre ++ I pre)))) (W'.putObj (d + 1) (.loop { rc .ready none with state := .busy })) := hW.setMap 0 rfl
      replace hb := hb.perm (List.perm_middle (l₁ := B x y)).symm
      refine wpIn_mono (hbody _ pre x y _ (pt (d + 1) (.loop { rc .ready none with state := .busy }) :: pt d (.deferred (some [])) :: st pre) hpre (hb.perm (perm_3.symm.append_left _))) ?_
      rintro e a3 W3 hp
      cases e with
      | normal =>
        have h3 : Ent _ W3 := Ent.perm hp perm_3
        refine ⟨_, _, run_endRound none h3.head, .inl ⟨rfl, ?_⟩⟩
        have h4 := h3.setMap 0 (ob' := .loop { { rc .ready none with state := .busy } with state := if (none : Option Code).isNone then .ready else .done, pending := none }) rfl
        rw [hrc] at h4 ⊢
        exact Ent.perm h4 perm_2'
      | ret =>
        have h3 : Ent _ W3 := (Ent.perm hp perm_3)
        refine ⟨_, _, run_endRound (some .ret) h3.head, .inr ⟨rfl, ?_⟩⟩
        have h4 := h3.setMap 0 (ob' := .loop { { rc .ready none with state := .busy } with state := if (some Code.ret).isNone then .ready else .done, pending := some .ret }) rfl
        rw [hrc] at h4 ⊢
        exact Ent.pack (l := []) Code.ret (by rw [List.append_nil]; exact (Ent.perm h4 perm_2').drop)
      | exit id =>
        have h3 : Ent _ W3 := (Ent.perm hp perm_3)
        refine ⟨_, _, run_endRound (some (.exit id)) h3.head, .inr ⟨rfl, ?_⟩⟩
        have h4 := h3.setMap 0 (ob' := .loop { { rc .ready none with state := .busy } with state := if (some (Code.exit id)).isNone then .ready else .done, pending := some (.exit id) }) rfl
        rw [hrc] at h4 ⊢
        exact Ent.pack (l := []) (Code.exit id) (by rw [List.append_nil]; exact (Ent.perm h4 perm_2').drop)
      | goto t => exact hp.elim
      | panic ch => exact hp.elim
      | outgrown => exact hp.elim
    · rintro e W2 ⟨⟨v, rfl⟩, hJ | ⟨pre, hpre, hJ⟩⟩
      · have h3 := Ent.perm hJ (perm_2 (l := []))
        refine ⟨none, _, by have := run_endLoop (P := P) h3.head (by rw [hrc]; simp); rw [hrc] at this; exact this, ?_⟩
        have h4 := h3.setMap 0 (ob' := .loop { rc .ready none with state := .exhausted }) rfl
        rw [hrc] at h4
        exact hdone d _ h4.tail
      · obtain ⟨c, hJ⟩ := hJ.unpack
        rw [List.append_nil] at hJ
        have h3 := Ent.perm hJ (perm_2 (l := []))
        refine ⟨some c, _, by have := run_endLoop (P := P) h3.head (by rw [hrc]; simp); rw [hrc] at this; exact this, ?_⟩
        have h4 := h3.setMap 0 (ob' := .loop { rc .done (some c) with state := .exhausted }) rfl
        rw [hrc] at h4
        exact hstop d c pre _ hpre h4.tail


/-- of a region that only comes to its end -/
def onlyN (K : Act → World → Prop) : Exit → Act → World → Prop
  | .normal, a, w => K a w
  | _, _, _ => False
theorem wp_onlyN {c : Code} {Q : Exit → Act → World → Prop} {a : Act} {w : World} (h : c.wp P (onlyN (fun a w => Q .normal a w)) a w) : c.wp P Q a w :=
  wp_mono h (by
    intro e a w h
    cases e <;> first | exact h | exact h.elim)
theorem onlyN_n {Q : Exit → Act → World → Prop} {a : Act} {w : World} (h : Q .normal a w) : onlyN (fun a w => Q .normal a w) .normal a w := h

/-- an operation carried out in a round, as anywhere -/
theorem opIn_of_op {F : Fence} {n : Nat} {ops : Array Oper} {Q : Exit → Act → World → Prop} {K : Act → World → Prop} {i : Nat} {a : Act} {w : World} (hF : F.fn = fun _ => True) (hdp : F.depth = none) (hal : F.alive = false) (hnd : ∀ o, ops[i]? = some o → ∀ c, o.op ≠ .defer c) (hlo : ¬ ∃ a w, Q .outgrown a w)
    (h : wpOp P ops Q i K a w) : wpOpIn F n P ops Q i K a w := by
  have e1 : Machine.fenced P F = Machine.fenced P Fence.wide := by
    funext m
    simp only [Machine.fenced, hF, hdp, hal, Fence.room, Fence.wide]
  have hCI : ∀ {f args w R}, Calls P f args w R → CallsIn F (n - 1) P f args w R := fun {f args w R} h => by
    refine ⟨by rw [hF]; trivial, fun cs _ => ?_⟩
    obtain ⟨e, w', fr, r, s, x⟩ := (callsIn_wide (n := n - 1)).2 h |>.2 cs (room_wide _)
    exact ⟨e, w', fr, r, by rw [e1]; exact s, x⟩
  unfold wpOp at h
  unfold wpOpIn
  split at h
  · rename_i ho; simp only [ho]; exact h
  · rename_i o ho
    simp only [ho]
    split at h
    · rename_i hw
      rw [if_pos hw]
      replace h := h.resolve_right (fun hh => hlo hh.2)
      refine ⟨fun _ _ => by rw [hF]; trivial, ?_⟩
      have hs : o.semAt F.round a.eval = execOp a.eval o := by
        cases hr : F.round with
        | none => simp [Oper.semAt_none]
        | some l => exact Oper.semAt_some l _ o (hnd o ho)
      rw [hs]
      unfold Oper.wp at h
      generalize (execOp a.eval o).run P w = r at h
      unfold Oper.upon at h
      unfold Oper.uponIn
      split at h
      · exact h
      · exact h
      · exact h
      · refine ⟨fun hh => (by rw [hdp] at hh; cases hh), (hCI h).mono ?_⟩
        intro e w2 h2
        cases e with
        | returned v => exact h2
        | panicked ch => exact h2
        | outgrown => exact h2
      · refine ⟨fun hh => (by rw [hdp] at hh; cases hh), fun c cs _ => ?_⟩
        obtain ⟨v, w', r, s⟩ := h c cs
        exact ⟨v, w', r, by rw [e1]; exact stepsIn_wide.2 s⟩
      · exact h
      · exact h.elim
    · rename_i hw
      rw [if_neg hw]
      exact ⟨fun _ _ => by rw [hF]; trivial, h⟩
theorem anyIn_of_held {F : Fence} {n : Nat} {md : Region.Mode} {ops : Array Oper} {Q : Exit → Act → World → Prop} {S : World → Prop} (hF : F.fn = fun _ => True) (hdp : F.depth = none) (hal : F.alive = false) (hnd : ∀ (i : Nat) o, ops[i]? = some o → ∀ c, o.op ≠ .defer c) (hlo : ¬ ∃ a w, Q .outgrown a w) :
    ∀ (fuel : Nat) (listed : Array Bool) (a : Act) (w : World), wpAnyH P md ops Q S fuel listed a w → wpAnyIn F n P md ops Q fuel listed a w
  | 0, _, _, _, h => h
  | fuel + 1, _, _, _, h => ⟨h.1, fun i hi => wpOpIn_mono (fun a' w' h' => anyIn_of_held hF hdp hal hnd hlo fuel _ a' w' h'.2) (opIn_of_op hF hdp hal (hnd i) hlo (h.2 i hi))⟩

/-- A region that draws its order, in a round: walked as anywhere, and it comes to its end. -/
theorem wpIn_region_held_drew {F : Fence} {n : Nat} {ops : Array Oper} {Q : Exit → Act → World → Prop} {S : World → Prop} {id : Nat} {a : Act} {w : World} (hF : F.fn = fun _ => True) (hdp : F.depth = none) (hal : F.alive = false) (hnd : (ops.toList.all fun o => match o.op with | .defer _ => false | _ => true) = true)
    (hm : P.follows .mixedOrders = true) (hS : S w.drew) (h : S w.drew → wpAnyH P .any ops (onlyN (fun a w => Q .normal a w)) S ops.size (Array.replicate ops.size false) a w.drew) : (Code.region id ops true).wpIn F n P Q a w := by
  have hnd' : ∀ (i : Nat) o, ops[i]? = some o → ∀ c, o.op ≠ .defer c := fun i o ho c hc => by
    have hm : o ∈ ops.toList := by
      have h2 : ops.toList[i]? = some o := by simpa using ho
      exact List.mem_of_getElem? h2
    have := List.all_eq_true.1 hnd o hm
    rw [hc] at this
    cases this
  refine wpIn_mono (Q := onlyN (fun a w => Q .normal a w)) (wpIn_region_any hm (anyIn_of_held hF hdp hal hnd' (by rintro ⟨_, _, h⟩; exact h) _ _ _ _ (h hS))) ?_
  intro e a w h
  cases e <;> first | exact h | exact h.elim
end
end Go.SL
namespace Go.Proofs.YtdpfigkjkjjedaaDoor
open Go.RowKit Go.SL
attribute [local go_sem] Oper.semAt_some wide_fn wide_depth shV

def shC (s : Sht) : List Value := [.int .u64 s.seq, .bool s.last, .string ⟨s.text.toArray⟩]
theorem shC_len (s : Sht) : (shC s).length = 3 := rfl
theorem shC_one (s : Sht) : ∀ u ∈ shC s, u.oneCell' = true := by simp [shC, Value.oneCell']
abbrev rowSh (ao : Option Addr) (c : Nat) (xs : List Sht) : HProp := row 30 3 (.slice ao xs.length c) xs.length (xs.flatMap shC)
theorem info_sht : elemInfo Tryd.prog 30 = some (some 3, 3, 32) := by kernel_rfl
theorem zs_sht : zeroSize Tryd.prog 30 = some 3 := by kernel_rfl
theorem shC_flat_len (xs : List Sht) : (xs.flatMap shC).length = xs.length * 3 := flatMap_len shC 3 shC_len xs

def coI (b2 : Nat) (l : List HProp) (pre : List Sht) : List HProp :=
  (ex fun z : Option Addr × Nat => [pt b2 (.cells #[.slice z.1 pre.length z.2] 39), rowSh z.1 z.2 pre]) :: l

set_option maxRecDepth 100000 in
set_option maxHeartbeats 4000000 in
theorem AppendSeq_cut {seq : Nat} {t : List UInt8} (ht : t.length ≤ 1000000) {bt bs : Nat} {l : List HProp} {w : World} (hE : Ent (cutSt seq t bt bs [] ++ l) w) :
    Calls Tryd.prog 102 #[.slice none 0 0, .func (.func 103) #[] #[.pointer (some ⟨bt, 0, none⟩), .pointer (some ⟨bs, 0, none⟩)]] w
      (Ret fun v w' => ∃ ao c, v = .slice ao (cutL seq t).length c ∧ Ent (rowSh ao c (cutL seq t) :: l) w') := by
  have hlen : (cutL seq t).length ≤ 1000000 := by rw [cutL_len]; unfold needN; omega
  refine calls_of_marks Tryd.func102 rfl ?_
  simp only [Tryd.ntmps102, List.size_toArray, List.length_cons, List.length_nil, Nat.reduceAdd, Nat.reduceSub, Array.replicate_succ, Array.replicate_zero, List.push_toArray, List.append_toArray, List.nil_append, List.cons_append]
  go_wp2_with (first
    | go_skip
    | ((with_reducible (show Go.wpList _ _ _ (Go.Oper.mk _ (.box _ _) _ _ _ _ :: _) _ _)); refine wpl_box hE rfl rfl rfl ?_; clear hE; intro b2 w hE; simp only [Act.eval, Act.put, List.setIfInBounds_toArray, List.set_cons_zero, List.set_cons_succ, getD_lit, List.getD_cons_succ, List.getD_cons_zero, Value.cells] at hE))
  refine wpIn_wide.1 (wpIn_rangeSLB (gf := 103) rfl (enters_of Tryd.func103 (by kernel_rfl) rfl) (cut_iter seq t ht bt bs) (fun _ => rfl) (coI b2 l) (fun _ _ => [ex fun _ : False => []]) ?e0
    (fun (x : Sht) (b5 : Nat) => { tmps := #[.slice none 0 0, .func (.func 103) #[] #[.pointer (some ⟨bt, 0, none⟩), .pointer (some ⟨bs, 0, none⟩)], .pointer (some ⟨b2, 0, none⟩), undef, .slice none 0 0, .pointer (some ⟨b5, 0, none⟩), .func (.func 103) #[] #[.pointer (some ⟨bt, 0, none⟩), .pointer (some ⟨bs, 0, none⟩)], shV x, undef, undef, undef, undef, undef], defers := [] })
    (fun (x : Sht) (b5 : Nat) => [pt b5 (.cells (shC x).toArray 30)]) ?assign ?body ?done ?stop)
  case e0 =>
    have h := (hE.nil 30 3).front 1 rfl
    have h2 := Ent.pack (f := fun z : Option Addr × Nat => [pt b2 (.cells #[.slice z.1 ([] : List Sht).length z.2] 39), rowSh z.1 z.2 []]) (none, 0) h
    exact (h2.front 2 rfl).front 2 rfl
  case assign =>
    intro lp x W L KK hL hKK
    gi_wp2
    exact hL.alloc (.cells (shC x).toArray 30)
  case body =>
    intro lp pre x b5 W L hpre hW
    obtain ⟨⟨ao, c⟩, hW'⟩ := (hW.front 1 rfl).unpack
    replace hW : Ent (pt b2 (.cells #[.slice ao pre.length c] 39) :: rowSh ao c pre :: pt b5 (.cells (shC x).toArray 30) :: (l ++ L)) W := hW'
    clear hW'
    have hpl : pre.length + 1 ≤ 1000000 := by have := hpre.length_le; simp at this; omega
    gi_wp2_with (first
      | (refine wplIn_one rfl rfl rfl (by intro c h; cases h) (by rintro ⟨_, _, h⟩; exact h) ?_; (with_reducible (show Go.wpList _ _ _ (Go.Oper.mk _ (.load 39 _) _ _ _ _ :: _) _ _)); refine wpl_load1 hW 0 rfl rfl rfl rfl (by simp [go_sem]) rfl ?_; refine wplIn_nil ?_)
      | (refine wplIn_one rfl rfl rfl (by intro c h; cases h) (by rintro ⟨_, _, h⟩; exact h) ?_; (with_reducible (show Go.wpList _ _ _ (Go.Oper.mk _ (.load 30 _) _ _ _ _ :: _) _ _)); refine wpl_loadW hW 2 rfl rfl rfl rfl Tryd.isAgg30 Tryd.sizeOf30 rfl ?_; refine wplIn_nil ?_)
      | (refine wplIn_one rfl rfl rfl (by intro c h; cases h) (by rintro ⟨_, _, h⟩; exact h) ?_; (with_reducible (show Go.wpList _ _ _ (Go.Oper.mk _ (.buildSlice _ _ _) _ _ _ _ :: _) _ _)); refine wpl_build1 hW rfl rfl (xs := shC x) rfl Tryd.underlying39 zs_sht Tryd.sizeOf30 (by decide) (by decide) rfl ?_; clear hW; intro b9 w3 hW; refine wplIn_nil ?_)
      | (refine wplIn_one rfl rfl rfl (by intro c h; cases h) (by rintro ⟨_, _, h⟩; exact h) ?_; (with_reducible (show Go.wpList _ _ _ (Go.Oper.mk _ (.call { callee := .builtin .append, args := _, argTypes := _ }) _ _ _ _ :: _) _ _)); refine wpl_appendG hW 2 rfl rfl rfl rfl rfl Tryd.underlying39 info_sht (by decide) (m := 1) (news := shC x) (reads_pt hW 0 rfl (off := 0) (fun j u hu => by rw [Nat.zero_add, List.getElem?_toArray]; exact hu)) rfl (shC_one x) (by omega) (by omega) ?_; clear hW; intro ao' c' w6 hW; simp only [List.set_cons_zero, List.set_cons_succ] at hW; refine wplIn_nil ?_)
      | (refine wplIn_one rfl rfl rfl (by intro c h; cases h) (by rintro ⟨_, _, h⟩; exact h) ?_; (with_reducible (show Go.wpList _ _ _ (Go.Oper.mk _ (.store _ _ _) _ _ _ _ :: _) _ _)); refine wpl_st1 hW 1 rfl rfl rfl rfl rfl (by first | (simp [go_sem]; done) | (simp [go_sem]; rfl)) rfl rfl (by simp) ?_; clear hW; intro w hW; simp only [Act.eval, getD_lit, List.getD_cons_succ, List.getD_cons_zero, List.set_cons_zero, List.set_cons_succ] at hW; refine wplIn_nil ?_))
    have hF := (hW.tail.erase 2)
    have e1 : (pre ++ [x]).length = pre.length + 1 := by simp
    have e2 : (pre ++ [x]).flatMap shC = pre.flatMap shC ++ shC x := by simp
    exact Ent.pack (f := fun z : Option Addr × Nat => [pt b2 (.cells #[.slice z.1 (pre ++ [x]).length z.2] 39), rowSh z.1 z.2 (pre ++ [x])]) (ao', c') (by simp only [rowSh, e1, e2]; exact hF)
  case done =>
    intro D W hW
    obtain ⟨⟨ao, c⟩, hW'⟩ := (hW.front 1 rfl).unpack
    replace hW : Ent (pt b2 (.cells #[.slice ao (cutL seq t).length c] 39) :: rowSh ao c (cutL seq t) :: pt D (.deferred (some [])) :: l) W := hW'
    clear hW'
    go_wp2_with (first
      | go_skip
      | ((with_reducible (show Go.wpList _ _ _ (Go.Oper.mk _ (.load _ _) _ _ _ _ :: _) _ _)); refine wpl_load1 hW 0 rfl rfl rfl rfl (by simp [go_sem]) rfl ?_))
    refine post_mark rfl (hW.front 2 rfl) (fun w' hw' => ⟨_, results_tmp rfl _ _ _, _, rfl, ao, c, rfl, hw'.tail⟩)
  case stop =>
    intro D c pre W hpre hW
    obtain ⟨h, _⟩ := (hW.front 1 rfl).unpack
    exact h.elim

theorem Collect_cut {seq : Nat} {t : List UInt8} (ht : t.length ≤ 1000000) {bt bs : Nat} {l : List HProp} {w : World} (hE : Ent (cutSt seq t bt bs [] ++ l) w) :
    Calls Tryd.prog 58 #[.func (.func 103) #[] #[.pointer (some ⟨bt, 0, none⟩), .pointer (some ⟨bs, 0, none⟩)]] w
      (Ret fun v w' => ∃ ao c, v = .slice ao (cutL seq t).length c ∧ Ent (rowSh ao c (cutL seq t) :: l) w') := by
  go_enter Tryd.func58, Tryd.ntmps58
  go_wp2_with (first
    | go_skip
    | (go_at_call 102; have H := AppendSeq_cut ht hE; refine H.mono ?_; clear H hE; rintro e w2 ⟨v, rfl, ao, c, rfl, hE⟩))
  go_ret
  exact ⟨_, rfl, ao, c, rfl, hE⟩
theorem Cut_any {seq : Nat} (hs : seq < 18446744073709551616) {t : List UInt8} (ht : t.length ≤ 1000000) {l : List HProp} {w : World} (hE : Ent l w) :
    Calls Tryd.prog 16 #[.int .u64 seq, .string ⟨t.toArray⟩] w (Ret fun v w' => ∃ ao c, v = .slice ao (cutL seq t).length c ∧ Ent (rowSh ao c (cutL seq t) :: l) w') := by
  go_enter Tryd.func16, Tryd.ntmps16
  go_wp2_with (first
    | go_skip
    | (go_at_call 59; have H := cut_any seq hs t hE; refine H.mono ?_; clear H hE; rintro e w2 ⟨v, rfl, bt, bs, rfl, hE⟩)
    | (go_at_call 58; have H := Collect_cut ht hE; refine H.mono ?_; clear H hE; rintro e w2 ⟨v, rfl, ao, c, rfl, hE⟩))
  go_ret
  exact ⟨_, rfl, ao, c, rfl, hE⟩
theorem Need_any (n : Nat) (hn : n ≤ 1000000000) (w : World) : Calls Tryd.prog 18 #[.int .i64 n] w (fun e w' => e = .returned (.int .i64 (needN n : Nat)) ∧ w = w') := by
  have h1 : max (0 : Int) (n : Int) = (n : Int) := by omega
  have Hn := SL.hid (show max (1 : Int) (((n : Int) + 497 - 1) / 497) = ((needN n : Nat) : Int) by
    unfold needN
    omega)
  go_enter Tryd.func18, Tryd.ntmps18
  go_wp2
  go_ret
  exact ⟨by rw [← Hn.out]; rfl, rfl⟩
end Go.Proofs.YtdpfigkjkjjedaaDoor
namespace Go.SL
section
variable {P : Program} {w : World} {l : List HProp}

def rowF (e : TypeId) (size : Nat) (v : Value) (n : Nat) (xs : List Value) : HProp where
  on w F := w.ownsRowF 0 e size v n xs ∧ ∀ b, F b ↔ v.ownBlock = some b
  stable := fun {w w' F} _ _ h ⟨h1, hF⟩ => by
    refine ⟨⟨h1.1, ?_⟩, hF⟩
    rcases h1.2 with h2 | ⟨g, cap, cur, fz, rfl, hb, hg, r⟩
    · exact .inl h2
    · exact .inr ⟨g, cap, cur, fz, rfl, hb, (h g ((hF g).2 rfl)).trans hg, r⟩
  bound := fun {w F b} ⟨h1, hF⟩ hb => by
    have hv := (hF b).1 hb
    rcases h1.2 with ⟨rfl, _⟩ | ⟨g, cap, cur, fz, rfl, _, hg, _⟩
    · cases hv
    · simp only [Value.ownBlock, Option.some.injEq] at hv
      subst hv
      exact (Array.getElem?_eq_some_iff.1 hg).1

theorem Ent.ownsF {e : TypeId} {size : Nat} {v : Value} {n : Nat} {xs : List Value} (hE : Ent l w) (i : Nat) (hi : l[i]? = some (rowF e size v n xs)) : w.ownsRowF 0 e size v n xs := by
  have h := hE.front i hi
  unfold Ent at h
  obtain ⟨F, F1, F2, ⟨h1, _⟩, _⟩ := h
  exact h1
theorem Ent.nilF (hE : Ent l w) (e : TypeId) (size : Nat) : Ent (rowF e size (.slice none 0 0) 0 [] :: l) w :=
  hE.step0 (Bs := [rowF e size (.slice none 0 0) 0 []]) (Same.refl w) (Nat.le_refl _) (fun _ _ => rfl) ⟨fun _ => False, on_single ⟨⟨by simp, .inl ⟨rfl, rfl⟩⟩, fun b => by simp [Value.ownBlock]⟩, fun _ h => h.elim⟩
theorem Ent.grownF {e : TypeId} {size : Nat} {v v' : Value} {n n' : Nat} {xs xs' : List Value} {w' : World} (hE : Ent l w) (i : Nat) (hi : l[i]? = some (rowF e size v n xs))
    (hg : w.grownBy w' v.ownBlock) (ho : w'.ownsRowF 0 e size v' n' xs') (hat : v'.ownBlock = v.ownBlock ∨ v'.ownBlock = some w.heap.size) : Ent (l.set i (rowF e size v' n' xs')) w' := by
  refine Ent.put ((hE.front i hi).step (Bs := [rowF e size v' n' xs']) ⟨hg.os, hg.tape, hg.output⟩ hg.size fun F hF => ⟨fun b hb hbF => hg.block b hb fun h => hbF ((hF.2 b).2 h.symm), fun b => v'.ownBlock = some b, on_single ⟨ho, fun _ => Iff.rfl⟩, fun b hb => ?_⟩) (List.getElem?_eq_some_iff.1 hi).1
  rcases hat with h | h
  · exact .inl ((hF.2 b).2 (h ▸ hb))
  · right
    rw [h] at hb
    simp at hb
    omega

theorem append_srcF {e : TypeId} {i : TypeInfo} {z : Value} {size bytes : Nat} {t tx : TypeId} (ty : TypeId)
    (ht : P.underlying t = some (.slice e)) (hi : P.info? e = some i) (hz : i.zero = some z) (hsize : i.size = size) (hby : i.bytes = bytes) (hzs : z.cells.size = size) (hsz : 0 < size)
    {v : Value} {n : Nat} {xs : List Value} (hown : w.ownsRowF 0 e size v n xs) {x : Value} {m : Nat} {news : List Value} (hs : Src P size tx x m news w) (h63 : n + m ≤ maxLen) (hbytes : (n + m) * bytes ≤ 140737488355328) :
    ∃ ao' c' w', (Builtin.append_ #[t, tx] ty #[v, x]).run P w = .ok (.slice ao' (n + m) c') w' ∧ w'.ownsRowF 0 e size (.slice ao' (n + m) c') (n + m) (xs ++ news) ∧ w.grownBy w' v.ownBlock ∧
      ((Value.slice ao' (n + m) c').ownBlock = v.ownBlock ∨ (Value.slice ao' (n + m) c').ownBlock = some w.heap.size) := by
  subst hsize
  subst hby
  have hm : n + m ≤ 9223372036854775807 := by simp only [maxLen] at h63; omega
  have hlen : (xs ++ news).length = (n + m) * i.size := by rw [List.length_append, hown.1, hs.newsLen, Nat.add_mul]
  have hzero : ∀ k, (Builtin.zeroCells z.cells k).size = k * i.size := fun k => by rw [size_zeroCells, hzs]
  -- a new row
  have key : ∀ (base : Option Addr) (cap : Nat), (Builtin.firstCells i.size n (.slice base n cap)).run P w.drew = .ok xs.toArray w.drew → cap < n + m → v = .slice base n cap →
      ∃ ao' c' w', (Builtin.append_ #[t, tx] ty #[v, x]).run P w = .ok (.slice ao' (n + m) c') w' ∧ w'.ownsRowF 0 e i.size (.slice ao' (n + m) c') (n + m) (xs ++ news) ∧ w.grownBy w' v.ownBlock ∧
      ((Value.slice ao' (n + m) c').ownBlock = v.ownBlock ∨ (Value.slice ao' (n + m) c').ownBlock = some w.heap.size) := by
    intro base cap hold hc hv
    have hr := run_append_grow_src w t tx ty e i z ht hi hz base n cap xs hold x m news hs hc (by omega) (growslice_fits (by omega) hbytes)
    have hge := grownCap_ge w (n + m) cap e
    refine ⟨_, _, _, by rw [hv]; exact hr, ⟨hlen, .inr ⟨w.heap.size, _, _, (0, 0), rfl, Nat.zero_le _, heap_alloc_new w.drew _, Nat.zero_le _, hge, grownCap_le_maxLen w (n + m) cap e h63, ?_, ?_⟩⟩,
      ⟨rfl, rfl, rfl, by simp, fun k hk _ => RowKit.Below.heap_alloc w.drew _ k hk⟩, .inr rfl⟩
    · rw [Array.size_append, hzero, List.size_toArray, hlen, ← Nat.add_mul]
      congr 1
      omega
    · rw [Array.toList_append, ← hlen]
      exact List.take_left
  rcases hown.2 with ⟨hv, h0⟩ | ⟨g, cap, cur, fz, hv, _, hg, hfz, hnc, hcm, hcs, htake⟩
  · have hx : xs = [] := List.eq_nil_of_length_eq_zero (by rw [hown.1, h0]; simp)
    by_cases hm0 : m = 0
    · have hn : news = [] := List.eq_nil_of_length_eq_zero (by rw [hs.newsLen, hm0]; simp)
      subst hv h0 hx hn hm0
      refine ⟨none, 0, w, ?_, ⟨by simp, .inl ⟨rfl, rfl⟩⟩, World.grownBy.refl _ _, .inl rfl⟩
      have hc := hs.cells
      rcases hs.kind with ⟨e', hk⟩ | hk <;> simp [Builtin.append_, run_underlying ht, run_underlying hk, Go.sizeOf, typeInfo, hi, hs.len, hc]
    · exact key none 0 (by subst hx h0; exact run_firstCells_none w.drew i.size 0 0 0) (by omega) (by rw [hv, h0])
  · by_cases hroom : n + m ≤ cap
    · have hfit : n * i.size + news.length ≤ cur.size := by rw [hs.newsLen, hcs, ← Nat.add_mul]; exact Nat.mul_le_mul_right _ hroom
      have hr := run_append_room_src w t tx ty e i ht hi g 0 n cap x m news hs hroom (fun j hj => by simp [World.cell?, hg]; omega) (fun j hj => by
        simp only [World.frozen?, hg]
        simp
        omega)
      obtain ⟨cur', h1, h2, h3, h4⟩ := setCells_cells g e fz news (0 + n * i.size) w cur hg
      obtain ⟨s1, s2, s3⟩ := setCells_same g news (0 + n * i.size) w
      refine ⟨_, _, _, by rw [hv]; exact hr, ⟨hlen, .inr ⟨g, cap, cur', fz, rfl, Nat.zero_le _, h1, by rw [Nat.add_mul]; omega, hroom, hcm, by rw [h2, hcs], ?_⟩⟩, ⟨s1.os, s1.tape, s1.output, Nat.le_of_eq s2.symm, fun k _ hk => s3 k fun hkg => hk (by rw [hv, hkg]; rfl)⟩, .inl (by rw [hv]; rfl)⟩
      apply List.ext_getElem?
      intro j
      rw [List.getElem?_take]
      by_cases hj : j < n * i.size
      · rw [if_pos (by rw [Nat.add_mul]; omega), Array.getElem?_toList, h3 j (by omega), List.getElem?_append_left (by rw [hown.1]; exact hj), ← htake, List.getElem?_take, if_pos hj, Array.getElem?_toList]
      · by_cases hj2 : j < (n + m) * i.size
        · have := h4 (by omega) (j - n * i.size) (by rw [hs.newsLen]; rw [Nat.add_mul] at hj2; omega)
          rw [if_pos hj2, Array.getElem?_toList, List.getElem?_append_right (by rw [hown.1]; omega), hown.1, ← this]
          congr 1
          omega
        · rw [if_neg hj2, List.getElem?_eq_none (by rw [hlen]; omega)]
    · refine key (some ⟨g, 0, none⟩) cap ?_ (by omega) hv
      have holds : ∀ j u, xs[j]? = some u → w.drew.cell? ((⟨g, 0, none⟩ : Addr).add j) = some u := fun j u hu => by
        have hj : j < xs.length := (List.getElem?_eq_some_iff.1 hu).1
        rw [← htake, List.getElem?_take, if_pos (by rw [hown.1] at hj; exact hj)] at hu
        rw [Addr.add_lit]
        have hg2 : w.drew.heap[g]? = some (.cells cur e fz) := hg
        simp only [World.cell?, hg2]
        simpa using hu
      exact run_firstCells_some w.drew i.size n ⟨g, 0, none⟩ n cap xs hown.1 holds

/-- append of a string onto a row of bytes whose head may be frozen -/
theorem wpl_appendSF {ops : Array Oper} {rest : List Oper} {o : Oper} {a : Act} {Q : Exit → Act → World → Prop} {e : TypeId} {i : TypeInfo} {t tx : TypeId} (hE : Ent l w) (k : Nat) {v : Value} {n : Nat} {xs : List Value} (hk : l[k]? = some (rowF e 1 v n xs))
    {s y : Operand} (ho : o.op = .call { callee := .builtin .append, args := #[s, y], argTypes := #[t, tx] }) (hw : Region.wanted o (yielded ops a.tmps) = true)
    (hs : a.eval s = v) {b : ByteArray} (hy : a.eval y = .string b)
    (ht : P.underlying t = some (.slice e)) (htx : P.underlying tx = some .string) (hi : P.info? e = some i) (hz : i.zero = some (.int .u8 0)) (hsize : i.size = 1) (hby : i.bytes = 1) (h63 : n + b.size ≤ 140737488355328)
    (h : ∀ ao' c' w', Ent (l.set k (rowF e 1 (.slice ao' (n + b.size) c') (n + b.size) (xs ++ byteCells b))) w' → wpList P ops Q rest (a.put o.dst (.slice ao' (n + b.size) c')) w') : wpList P ops Q (o :: rest) a w := by
  obtain ⟨ao', c', w', hr, h1, h2, h3⟩ := append_srcF (P := P) o.type ht hi hz hsize hby rfl (by decide) (hE.ownsF k hk) (Src.ofString w htx b) (by unfold maxLen; omega) (by omega)
  refine wpl_run hw (w' := w') (v := .slice ao' (n + b.size) c') ?_ (h ao' c' w' (hE.grownF k hk h2 h1 h3))
  simp [execOp, ho, resolve, invoke, builtin, hs, hy, hr]
/-- append of a slice's bytes onto such a row -/
theorem wpl_appendBF {ops : Array Oper} {rest : List Oper} {o : Oper} {a : Act} {Q : Exit → Act → World → Prop} {e : TypeId} {i : TypeInfo} {t : TypeId} (hE : Ent l w) (k : Nat) {v : Value} {n : Nat} {xs : List Value} (hk : l[k]? = some (rowF e 1 v n xs))
    {s y : Operand} (ho : o.op = .call { callee := .builtin .append, args := #[s, y], argTypes := #[t, t] }) (hw : Region.wanted o (yielded ops a.tmps) = true)
    (hs : a.eval s = v) {ad : Addr} {m c : Nat} (hy : a.eval y = .slice (some ad) m c) {news : List Value} (hl : news.length = m) (hc : ∀ j u, news[j]? = some u → w.cell? (ad.add j) = some u) (h1 : ∀ u ∈ news, u.oneCell' = true)
    (ht : P.underlying t = some (.slice e)) (hi : P.info? e = some i) (hz : i.zero = some (.int .u8 0)) (hsize : i.size = 1) (hby : i.bytes = 1) (h63 : n + m ≤ 140737488355328)
    (h : ∀ ao' c' w', Ent (l.set k (rowF e 1 (.slice ao' (n + m) c') (n + m) (xs ++ news))) w' → wpList P ops Q rest (a.put o.dst (.slice ao' (n + m) c')) w') : wpList P ops Q (o :: rest) a w := by
  obtain ⟨ao', c', w', hr, h1', h2, h3⟩ := append_srcF (P := P) o.type ht hi hz hsize hby rfl (by decide) (hE.ownsF k hk) (Src.ofSlice w ht ad m c news (by rw [hl, Nat.mul_one]) hc h1) (by unfold maxLen; omega) (by omega)
  refine wpl_run hw (w' := w') (v := .slice ao' (n + m) c') ?_ (h ao' c' w' (hE.grownF k hk h2 h1' h3))
  simp [execOp, ho, resolve, invoke, builtin, hs, hy, hr]

/-- the bytes that a string shares from now on -/
theorem Ent.freeze {e : TypeId} {g n cap : Nat} {xs : List Value} (hE : Ent l w) (i : Nat) (hi : l[i]? = some (rowF e 1 (.slice (some ⟨g, 0, none⟩) n cap) n xs)) : Ent l (w.freeze ⟨g, 0, none⟩ n) := by
  by_cases hn : n = 0
  · subst hn
    exact hE
  have hlen : i < l.length := (List.getElem?_eq_some_iff.1 hi).1
  have hset : l.set i (rowF e 1 (.slice (some ⟨g, 0, none⟩) n cap) n xs) = l := by
    have hi2 := (List.getElem?_eq_some_iff.1 hi).2
    rw [← hi2, List.set_getElem_self]
  have hx : (w.freeze ⟨g, 0, none⟩ n).heap.size = w.heap.size := by simp [World.freeze, hn]
  rw [← hset]
  refine Ent.put ((hE.front i hi).step (Bs := [rowF e 1 (.slice (some ⟨g, 0, none⟩) n cap) n xs]) ⟨by simp [World.freeze, hn], by simp [World.freeze, hn], by simp [World.freeze, hn]⟩ (by omega) fun F hF => ?_) hlen
  unfold rowF at hF
  refine ⟨fun b hb hbF => ?_, F, ?_, fun _ h => .inl h⟩
  · have hne : g ≠ b := fun e => hbF ((hF.2 b).2 (by simp [Value.ownBlock, e]))
    simp [World.freeze, hn, Array.getElem?_modify, hne]
  · unfold rowF
    refine on_single ⟨⟨hF.1.1, ?_⟩, hF.2⟩
    rcases hF.1.2 with ⟨h, _⟩ | ⟨g', cap', cur, fz, hv, hb, hg, hfz, r⟩
    · cases h
    · cases hv
      obtain ⟨lo, hi'⟩ := fz
      refine .inr ⟨g, cap, cur, if lo == hi' then (0, 0 + n) else (min lo 0, max hi' (0 + n)), rfl, hb, ?_, ?_, r⟩
      · simp [World.freeze, hn, Array.getElem?_modify, hg]
      · simp only at hfz
        split <;> simp <;> omega
end
attribute [irreducible] rowF
end Go.SL
namespace Go.Proofs.YtdpfigkjkjjedaaDoor
open Go.RowKit Go.SL

/-- a builder that holds these bytes -/
def bldZ (b : Nat) : Type := { z : Value × Value // z.1 = .pointer none ∨ z.1 = .pointer (some ⟨b, 0, none⟩) }
def bld (b : Nat) (bs : List UInt8) : HProp := ex fun z : bldZ b => [pt b (.cells #[z.1.1, z.1.2] 125), rowF 5 1 z.1.2 bs.length (bvals bs)]
theorem bld_new {b : Nat} {l : List HProp} {w : World} (hE : Ent (pt b (.cells #[.pointer none, .slice none 0 0] 125) :: l) w) : Ent (bld b [] :: l) w :=
  Ent.pack (⟨(.pointer none, .slice none 0 0), .inl rfl⟩ : bldZ b) ((hE.nilF _ _).front 1 rfl)
theorem infoBF : ∃ i, Tryd.prog.info? 5 = some i ∧ i.zero = some (.int .u8 0) ∧ i.size = 1 ∧ i.bytes = 1 := info_parts infoB

theorem sizeBuilder : (Tryd.prog.info? 125).map (·.size) = some 2 := by kernel_rfl
theorem liesBuilder : liesAt Tryd.prog Tryd.prog.depth 125 (2 / Tryd.prog.cellsOf 125) 0 125 1 = true := by kernel_rfl
set_option maxHeartbeats 1000000 in
set_option maxRecDepth 100000 in
theorem copyCheck_any {b : Nat} {p v : Value} (hp : p = .pointer none ∨ p = .pointer (some ⟨b, 0, none⟩)) {l : List HProp} {w : World} (hE : Ent (pt b (.cells #[p, v] 125) :: l) w) :
    Calls Tryd.prog 104 #[.pointer (some ⟨b, 0, none⟩)] w (Ret fun r w' => r = .tuple #[] ∧ Ent (pt b (.cells #[.pointer (some ⟨b, 0, none⟩), v] 125) :: l) w') := by
  obtain ⟨j, hj, hjs⟩ := Option.map_eq_some_iff.1 sizeBuilder
  have h0 : w.cell? ⟨b, 0, none⟩ = some p := hE.cell 0 rfl 0
  have hfz := hE.frozen 0 rfl 0
  have hsh : w.shape? b = some (125, 2) := by simp only [World.shape?, hE.at 0 rfl]; rfl
  rcases hp with rfl | rfl
  · go_enter Tryd.func104, Tryd.ntmps104
    go_wp2
    rw [Lib.run_to_unsafe w ⟨b, 0, none⟩ Tryd.underlying123 Tryd.underlying197 hj (by rw [hjs]; decide) hsh (Nat.zero_lt_succ 1)]
    simp only [Result.andThen]
    rw [Oper.upon_value]
    go_wp2
    rw [run_callFunc_extern Tryd.func121 (by kernel_rfl) (by kernel_rfl) (by kernel_rfl) (e := Extern.AbiNoEscape.same) (by kernel_rfl)]
    rw [Lib.run_noEscape]
    simp only [Result.andThen]
    rw [Oper.upon_value]
    go_wp2
    rw [Lib.run_from_unsafe w ⟨b, 0, none⟩ Tryd.underlying197 Tryd.underlying123 hj hsh liesBuilder]
    simp only [Result.andThen]
    rw [Oper.upon_value]
    go_wp2
    go_end0
    exact ⟨_, rfl, rfl, hE.setCell 0 rfl 0 _⟩
  · go_enter Tryd.func104, Tryd.ntmps104
    go_wp2
    rw [Lib.run_neq_ptr_same w _ Tryd.underlying123 hj]
    go_wp2
    go_end0
    exact ⟨_, rfl, rfl, hE⟩

set_option maxRecDepth 100000 in
theorem WriteString_any {b : Nat} {bs ys : List UInt8} (hl : bs.length + ys.length ≤ 140737488355328) {l : List HProp} {w : World} (hE : Ent (bld b bs :: l) w) :
    Calls Tryd.prog 60 #[.pointer (some ⟨b, 0, none⟩), .string ⟨ys.toArray⟩] w (Ret fun r w' => r = .tuple #[.int .i64 ys.length, .nilIface] ∧ Ent (bld b (bs ++ ys) :: l) w') := by
  obtain ⟨⟨⟨p, v⟩, hp⟩, hE⟩ := hE.unpack
  obtain ⟨i, hi, hz, hs, hy⟩ := infoBF
  simp only [List.cons_append, List.nil_append] at hE hp
  have hsz : (⟨ys.toArray⟩ : ByteArray).size = ys.length := by simp [ByteArray.size]
  go_enter Tryd.func60, Tryd.ntmps60
  go_wp2_with (first
    | go_skip
    | (go_at_call 104; refine (copyCheck_any hp hE).mono ?_; clear hE; rintro e w2 ⟨r, rfl, rfl, hE⟩)
    | ((with_reducible (show Go.wpList _ _ _ (Go.Oper.mk _ (.load _ _) _ _ _ _ :: _) _ _)); (first | (refine wpl_load1 hE 0 rfl rfl rfl rfl (by simp [go_sem]) rfl ?_) | (refine wpl_load1 hE 1 rfl rfl rfl rfl (by simp [go_sem]) rfl ?_) | (refine wpl_load1 hE 2 rfl rfl rfl rfl (by simp [go_sem]) rfl ?_) | (refine wpl_load1 hE 3 rfl rfl rfl rfl (by simp [go_sem]) rfl ?_) | (refine wpl_load1 hE 4 rfl rfl rfl rfl (by simp [go_sem]) rfl ?_) | (refine wpl_load1 hE 5 rfl rfl rfl rfl (by simp [go_sem]) rfl ?_) | (refine wpl_load1 hE 6 rfl rfl rfl rfl (by simp [go_sem]) rfl ?_) | (refine wpl_load1 hE 7 rfl rfl rfl rfl (by simp [go_sem]) rfl ?_)))
    | ((with_reducible (show Go.wpList _ _ _ (Go.Oper.mk _ (.call { callee := .builtin .append, args := _, argTypes := _ }) _ _ _ _ :: _) _ _)); refine wpl_appendSF hE 1 rfl rfl rfl rfl (b := ⟨ys.toArray⟩) rfl Tryd.underlying26 Tryd.underlying9 hi hz hs hy (by rw [hsz]; exact hl) ?_; clear hE; intro ao' c' w6 hE; simp only [List.set_cons_zero, List.set_cons_succ] at hE)
    | ((with_reducible (show Go.wpList _ _ _ (Go.Oper.mk _ (.store _ _ _) _ _ _ _ :: _) _ _)); (first | (refine wpl_st1 hE 0 rfl rfl rfl rfl rfl (by first | (simp [go_sem]; done) | (simp [go_sem]; rfl)) rfl rfl (by simp) ?_) | (refine wpl_st1 hE 1 rfl rfl rfl rfl rfl (by first | (simp [go_sem]; done) | (simp [go_sem]; rfl)) rfl rfl (by simp) ?_) | (refine wpl_st1 hE 2 rfl rfl rfl rfl rfl (by first | (simp [go_sem]; done) | (simp [go_sem]; rfl)) rfl rfl (by simp) ?_) | (refine wpl_st1 hE 3 rfl rfl rfl rfl rfl (by first | (simp [go_sem]; done) | (simp [go_sem]; rfl)) rfl rfl (by simp) ?_) | (refine wpl_st1 hE 4 rfl rfl rfl rfl rfl (by first | (simp [go_sem]; done) | (simp [go_sem]; rfl)) rfl rfl (by simp) ?_) | (refine wpl_st1 hE 5 rfl rfl rfl rfl rfl (by first | (simp [go_sem]; done) | (simp [go_sem]; rfl)) rfl rfl (by simp) ?_) | (refine wpl_st1 hE 6 rfl rfl rfl rfl rfl (by first | (simp [go_sem]; done) | (simp [go_sem]; rfl)) rfl rfl (by simp) ?_) | (refine wpl_st1 hE 7 rfl rfl rfl rfl rfl (by first | (simp [go_sem]; done) | (simp [go_sem]; rfl)) rfl rfl (by simp) ?_)); clear hE; intro w hE; simp only [Act.eval, getD_lit, List.getD_cons_succ, List.getD_cons_zero, List.set_cons_zero, List.set_cons_succ] at hE))
  go_ret2
  rw [hsz, byteCells_mk] at hE
  refine ⟨_, rfl, rfl, Ent.pack (⟨(.pointer (some ⟨b, 0, none⟩), .slice ao' (bs.length + ys.length) c'), .inr rfl⟩ : bldZ b) ?_⟩
  rw [List.length_append, bvals_append]
  exact hE

theorem strPtr : Tryd.prog.underlying 180 = some (.pointer 5) := by kernel_rfl
theorem cellsByteB : Tryd.prog.cellsOf 5 = 1 := by kernel_rfl
theorem hid_bld {b : Nat} {bs : List UInt8} {l : List HProp} {w : World} (hE : Ent (bld b bs :: l) w) : ∃ p v, (p = .pointer none ∨ p = .pointer (some ⟨b, 0, none⟩)) ∧ Ent (pt b (.cells #[p, v] 125) :: rowF 5 1 v bs.length (bvals bs) :: l) w := by
  obtain ⟨⟨⟨p, v⟩, hp⟩, hE⟩ := hE.unpack
  exact ⟨p, v, hp, hE⟩
theorem bld_back {b : Nat} {bs : List UInt8} {p v : Value} (hp : p = .pointer none ∨ p = .pointer (some ⟨b, 0, none⟩)) {l : List HProp} {w : World} (hE : Ent (pt b (.cells #[p, v] 125) :: rowF 5 1 v bs.length (bvals bs) :: l) w) : Ent (bld b bs :: l) w :=
  Ent.pack (⟨(p, v), hp⟩ : bldZ b) hE

set_option maxRecDepth 100000 in
theorem Len_any {b : Nat} {bs : List UInt8} {l : List HProp} {w : World} (hE : Ent (bld b bs :: l) w) :
    Calls Tryd.prog 95 #[.pointer (some ⟨b, 0, none⟩)] w (Ret fun r w' => r = .int .i64 bs.length ∧ Ent (bld b bs :: l) w') := by
  obtain ⟨p, v, hp, hE⟩ := hid_bld hE
  obtain ⟨ao, c, rfl⟩ : ∃ ao c, v = .slice ao bs.length c := by
    rcases (hE.ownsF 1 rfl).2 with ⟨h, h0⟩ | ⟨g, cap, cur, fz, h, _⟩
    · exact ⟨none, 0, by rw [h, h0]⟩
    · exact ⟨_, _, h⟩
  go_enter Tryd.func95, Tryd.ntmps95
  go_wp2_with (first
    | go_skip
    | ((with_reducible (show Go.wpList _ _ _ (Go.Oper.mk _ (.load _ _) _ _ _ _ :: _) _ _)); (first | (refine wpl_load1 hE 0 rfl rfl rfl rfl (by simp [go_sem]) rfl ?_) | (refine wpl_load1 hE 1 rfl rfl rfl rfl (by simp [go_sem]) rfl ?_) | (refine wpl_load1 hE 2 rfl rfl rfl rfl (by simp [go_sem]) rfl ?_) | (refine wpl_load1 hE 3 rfl rfl rfl rfl (by simp [go_sem]) rfl ?_) | (refine wpl_load1 hE 4 rfl rfl rfl rfl (by simp [go_sem]) rfl ?_) | (refine wpl_load1 hE 5 rfl rfl rfl rfl (by simp [go_sem]) rfl ?_) | (refine wpl_load1 hE 6 rfl rfl rfl rfl (by simp [go_sem]) rfl ?_) | (refine wpl_load1 hE 7 rfl rfl rfl rfl (by simp [go_sem]) rfl ?_))))
  go_ret
  exact ⟨_, rfl, rfl, bld_back hp hE⟩
set_option maxRecDepth 100000 in
theorem Reset_any {b : Nat} {bs : List UInt8} {l : List HProp} {w : World} (hE : Ent (bld b bs :: l) w) :
    Calls Tryd.prog 112 #[.pointer (some ⟨b, 0, none⟩)] w (Ret fun r w' => r = .tuple #[] ∧ Ent (bld b [] :: l) w') := by
  obtain ⟨p, v, hp, hE⟩ := hid_bld hE
  go_enter Tryd.func112, Tryd.ntmps112
  go_wp2_with (first
    | go_skip
    | ((with_reducible (show Go.wpList _ _ _ (Go.Oper.mk _ (.store _ _ _) _ _ _ _ :: _) _ _)); (first | (refine wpl_st1 hE 0 rfl rfl rfl rfl rfl (by first | (simp [go_sem]; done) | (simp [go_sem]; rfl)) rfl rfl (by simp) ?_) | (refine wpl_st1 hE 1 rfl rfl rfl rfl rfl (by first | (simp [go_sem]; done) | (simp [go_sem]; rfl)) rfl rfl (by simp) ?_) | (refine wpl_st1 hE 2 rfl rfl rfl rfl rfl (by first | (simp [go_sem]; done) | (simp [go_sem]; rfl)) rfl rfl (by simp) ?_) | (refine wpl_st1 hE 3 rfl rfl rfl rfl rfl (by first | (simp [go_sem]; done) | (simp [go_sem]; rfl)) rfl rfl (by simp) ?_) | (refine wpl_st1 hE 4 rfl rfl rfl rfl rfl (by first | (simp [go_sem]; done) | (simp [go_sem]; rfl)) rfl rfl (by simp) ?_) | (refine wpl_st1 hE 5 rfl rfl rfl rfl rfl (by first | (simp [go_sem]; done) | (simp [go_sem]; rfl)) rfl rfl (by simp) ?_) | (refine wpl_st1 hE 6 rfl rfl rfl rfl rfl (by first | (simp [go_sem]; done) | (simp [go_sem]; rfl)) rfl rfl (by simp) ?_) | (refine wpl_st1 hE 7 rfl rfl rfl rfl rfl (by first | (simp [go_sem]; done) | (simp [go_sem]; rfl)) rfl rfl (by simp) ?_)); clear hE; intro w hE; simp only [Act.eval, getD_lit, List.getD_cons_succ, List.getD_cons_zero, List.set_cons_zero, List.set_cons_succ] at hE))
  go_end0
  exact ⟨_, rfl, rfl, bld_new (hE.erase 1)⟩

set_option maxHeartbeats 2000000 in
set_option maxRecDepth 100000 in
theorem String_any {b : Nat} {bs : List UInt8} {l : List HProp} {w : World} (hE : Ent (bld b bs :: l) w) :
    Calls Tryd.prog 61 #[.pointer (some ⟨b, 0, none⟩)] w (Ret fun r w' => r = .string ⟨bs.toArray⟩ ∧ Ent (bld b bs :: l) w') := by
  obtain ⟨p, v, hp, hE⟩ := hid_bld hE
  have mixed : Tryd.prog.follows .mixedOrders = true := by kernel_rfl
  have hown := hE.ownsF 1 rfl
  have hED := hE.drew
  have c1 : w.drew.cell? ⟨b, 1, none⟩ = some v := hED.cell 0 rfl 1
  rcases hown.2 with ⟨rfl, h0⟩ | ⟨g, cap, cur, fz, rfl, _, hg, hfz, hnc, hcm, hcs, htake⟩
  · obtain rfl : bs = [] := List.eq_nil_of_length_eq_zero h0
    have hUS : (Builtin.unsafeString_ #[180, 3] 9 #[.pointer none, .int .i64 0]).run Tryd.prog w.drew = .ok (.string .empty) w.drew := Lib.run_unsafeString_none w.drew _ _ _ none
    have hSD : (Builtin.unsafeSliceData_ #[26] 180 #[.slice none 0 0]).run Tryd.prog w.drew = .ok (.pointer none) w.drew := rfl
    go_enter Tryd.func61, Tryd.ntmps61
    go_wp2
    go_region_o
    all_goals (go_wp2; go_ret; exact ⟨_, rfl, rfl, bld_back hp hED⟩)
  · by_cases h0 : bs = []
    · subst h0
      by_cases hc0 : cap = 0
      · subst hc0
        have hSD : (Builtin.unsafeSliceData_ #[26] 180 #[.slice (some ⟨g, 0, none⟩) 0 0]).run Tryd.prog w.drew = .ok (.pointer (some ⟨w.drew.heap.size, 0, none⟩)) (w.drew.alloc (.view ⟨g, 0, none⟩ 5)) :=
          Lib.run_unsafeSliceData_zero w.drew _ _ 5 strPtr ⟨g, 0, none⟩ 0 (5, cur.size) (by have hg' : w.drew.heap[g]? = some (.cells cur 5 fz) := hg; simp [World.shape?, hg'])
        have hUS : ∀ q W, (Builtin.unsafeString_ #[180, 3] 9 #[.pointer q, .int .i64 0]).run Tryd.prog W = .ok (.string .empty) W := fun q W => Lib.run_unsafeString_none W _ _ _ q
        have hEA := (hED.alloc (.view ⟨g, 0, none⟩ 5)).tail
        have c2 : (w.drew.alloc (.view ⟨g, 0, none⟩ 5)).cell? ⟨b, 1, none⟩ = some (.slice (some ⟨g, 0, none⟩) 0 0) := hEA.cell 0 rfl 1
        have c3 : (w.alloc (.view ⟨g, 0, none⟩ 5)).drew.cell? ⟨b, 1, none⟩ = some (.slice (some ⟨g, 0, none⟩) 0 0) := c2
        have c0 : w.cell? ⟨b, 1, none⟩ = some (.slice (some ⟨g, 0, none⟩) 0 0) := c1
        go_enter Tryd.func61, Tryd.ntmps61
        go_wp2
        go_region_o
        all_goals (go_wp2; go_ret; exact ⟨_, rfl, rfl, bld_back hp hEA⟩)
      · have hSD : (Builtin.unsafeSliceData_ #[26] 180 #[.slice (some ⟨g, 0, none⟩) 0 cap]).run Tryd.prog w.drew = .ok (.pointer (some ⟨g, 0, none⟩)) w.drew :=
          Lib.run_unsafeSliceData_row _ _ _ _ _ _ hc0
        have hUS : ∀ q W, (Builtin.unsafeString_ #[180, 3] 9 #[.pointer q, .int .i64 0]).run Tryd.prog W = .ok (.string .empty) W := fun q W => Lib.run_unsafeString_none W _ _ _ q
        clear hc0
        go_enter Tryd.func61, Tryd.ntmps61
        go_wp2
        go_region_o
        all_goals (go_wp2; go_ret; exact ⟨_, rfl, rfl, bld_back hp hED⟩)
    · have hpos : bs.length ≠ 0 := by simpa using h0
      have hSD : (Builtin.unsafeSliceData_ #[26] 180 #[.slice (some ⟨g, 0, none⟩) bs.length cap]).run Tryd.prog w.drew = .ok (.pointer (some ⟨g, 0, none⟩)) w.drew :=
        Lib.run_unsafeSliceData_row _ _ _ _ _ _ (by omega)
      have hUS : (Builtin.unsafeString_ #[180, 3] 9 #[.pointer (some ⟨g, 0, none⟩), .int .i64 bs.length]).run Tryd.prog w.drew = .ok (.string ⟨bs.toArray⟩) (w.drew.freeze ⟨g, 0, none⟩ bs.length) := by
        refine Lib.run_unsafeString_row w.drew 180 3 9 5 strPtr cellsByteB g cur.size (by have hg' : w.drew.heap[g]? = some (.cells cur 5 fz) := hg; simp [World.shape?, hg']) bs h0 (by omega) (by unfold maxLen at hcm; omega) ?_
        intro j x hx
        have hj : j < bs.length := (List.getElem?_eq_some_iff.1 hx).1
        have h2 : (cur.toList.take (bs.length * 1))[j]? = some (.int .u8 x.toNat) := by rw [htake]; simp [bvals, hx, bval]
        rw [List.getElem?_take, if_pos (by omega)] at h2
        have hg' : w.drew.heap[g]? = some (.cells cur 5 fz) := hg
        rw [Addr.add_lit]
        simp only [World.cell?, hg']
        simpa using h2
      have hEF := hED.freeze 1 rfl
      go_enter Tryd.func61, Tryd.ntmps61
      go_wp2
      go_region_o
      all_goals (go_wp2; go_ret; exact ⟨_, rfl, rfl, bld_back hp hEF⟩)
end Go.Proofs.YtdpfigkjkjjedaaDoor
