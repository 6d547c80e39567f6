/-
  A chunk of the document as the program has it; whether one is too great.
-/
import Derived.Test.YtohdljcpaogokaaCkg
namespace Go.Proofs.Ytohdljcpaogokaa
open Go.RowKit Go.SL

theorem built_kid5 (nm : ByteArray) (d : Bool) {hs : List UInt8} (h32 : hs.length = 32) (g s : Int) : Try.prog.built 59 [(0, .string nm), (1, .bool d), (2, .agg (bvals hs).toArray), (3, .int .u8 g), (4, .int .u32 s)] = some (.string nm :: .bool d :: (bvals hs ++ [.int .u8 g, .int .u32 s])).toArray := by
  obtain ⟨x0, x1, x2, x3, x4, x5, x6, x7, x8, x9, x10, x11, x12, x13, x14, x15, x16, x17, x18, x19, x20, x21, x22, x23, x24, x25, x26, x27, x28, x29, x30, x31, rfl⟩ := list32 h32
  kernel_rfl
theorem run_built_kid5 {k : Kid} (h : k.good) (w : World) : (Instr.build 59 #[(0, .string ⟨k.name.toArray⟩), (1, .bool k.dir), (2, .agg (bvals k.hash).toArray), (3, .int .u8 k.height.toNat), (4, .int .u32 k.size)]).run Try.prog w = .ok (.agg (kcells k).toArray) w :=
  run_build w 59 _ _ (built_kid5 _ _ h.1 _ _)
theorem built_chunk (n : Int) (s : ByteArray) : Try.prog.built 39 [(0, .int .u8 n), (1, .string s)] = some #[.int .u8 n, .string s, .slice none 0 0] := by kernel_rfl
theorem run_built_chunk (n : Int) (s : ByteArray) (w : World) : (Instr.build 39 #[(0, .int .u8 n), (1, .string s)]).run Try.prog w = .ok (.agg #[.int .u8 n, .string s, .slice none 0 0]) w := run_build w _ _ _ (built_chunk n s)

def OfRel (u : Int) (dat : ByteArray) (ks : List Kid) (b3 : Nat) (l : List HProp) (i : Value) (wr : World) : Prop :=
  ∃ k ao c, k ≤ ks.length ∧ i = .int .i64 (k : Nat) ∧ Ent (pt b3 (.cells #[.int .u8 u, .string dat, .slice ao (ks.take k).length c] 39) :: rowK ao c (ks.take k) :: l) wr

set_option maxRecDepth 100000 in
set_option maxHeartbeats 2000000 in
attribute [-go_sem] Instr.build in
theorem Of_chunk {u : UInt8} {data : List UInt8} {ks : List Kid} {ai : Option Addr} {ci : Nat} (hg : ∀ k ∈ ks, k.good) (hn : ks.length ≤ 1000000) {l : List HProp} {w : World} (hE : Ent l w) (hk : Knows l (reads (.slice ai ks.length ci) ks.length (kidCells ks))) :
    Calls Try.prog 21 #[.agg #[.int .u8 u.toNat, .string ⟨data.toArray⟩, .slice ai ks.length ci]] w (Ret fun v w' => ∃ ao c, v = .agg #[.int .u8 u.toNat, .string ⟨data.toArray⟩, .slice ao ks.length c] ∧ Ent (rowK ao c ks :: l) w') := by
  have Hg := SL.hid hg
  clear hg
  have hb3 := run_built_chunk u.toNat ⟨data.toArray⟩
  go_enter Try.func21, Try.ntmps21
  go_wp2_with (first
    | go_skip
    | ((with_reducible (show Go.wpList _ _ _ (Go.Oper.mk _ (.box _ _) _ _ _ _ :: _) _ _)); refine wpl_box hE rfl rfl rfl ?_; clear hE; intro b1 w hE1; simp only [Act.eval, Act.put, List.setIfInBounds_toArray, List.set_cons_zero, List.set_cons_succ, getD_lit, List.getD_cons_succ, List.getD_cons_zero, Value.cells] at hE1)
    | ((with_reducible (show Go.wpList _ _ _ (Go.Oper.mk _ (.alloc _) _ _ _ _ :: _) _ _)); refine wpl_alloc hE1 rfl rfl (by simp [go_sem]; rfl) ?_; clear hE1; intro b2 w hE2; simp only [Act.eval, Act.put, List.setIfInBounds_toArray, List.set_cons_zero, List.set_cons_succ, getD_lit, List.getD_cons_succ, List.getD_cons_zero, Value.cells] at hE2)
    | ((with_reducible (show Go.wpList _ _ _ (Go.Oper.mk _ (.load 5 _) _ _ _ _ :: _) _ _)); refine wpl_load1 hE2 1 rfl rfl rfl rfl (by simp [go_sem]) rfl ?_)
    | ((with_reducible (show Go.wpList _ _ _ (Go.Oper.mk _ (.load 9 _) _ _ _ _ :: _) _ _)); refine wpl_load1 hE2 1 rfl rfl rfl rfl (by simp [go_sem]) rfl ?_)
    | ((with_reducible (show Go.wpList _ _ _ (Go.Oper.mk _ (.alloc _) _ _ _ _ :: _) _ _)); refine wpl_alloc hE2 rfl rfl (by simp [go_sem]; rfl) ?_; clear hE2; intro b3 w hE3; simp only [Act.eval, Act.put, List.setIfInBounds_toArray, List.set_cons_zero, List.set_cons_succ, getD_lit, List.getD_cons_succ, List.getD_cons_zero, Value.cells] at hE3)
    | (refine wpl_storeW hE3 0 rfl rfl rfl (xs := [.int .u8 u.toNat, .string ⟨data.toArray⟩, .slice none 0 0]) rfl rfl Try.sizeOf39 rfl (by simp [Value.oneCell']) rfl ?_; clear hE3; intro w hE4; simp only [List.set_cons_zero, List.set_cons_succ] at hE4))
  replace hE4 := (hE4.nil 59 36).front 1 rfl
  go_loopw [4] (fun i wr => OfRel u.toNat ⟨data.toArray⟩ ks b3 (pt b2 (.cells #[.int .u8 0, .string ⟨#[]⟩, .slice none 0 0] 39) :: pt b1 (.cells #[.int .u8 u.toNat, .string ⟨data.toArray⟩, .slice ai ks.length ci] 45) :: l) i wr) (fun i _ => ks.length - (intOf i).toNat)
  case atStart => exact ⟨0, none, 0, Nat.zero_le _, rfl, hE4⟩
  case round =>
    clear hE4
    obtain ⟨k, ao, c, hkl, rfl, hE⟩ := hrel
    by_cases hlt : k < ks.length
    · obtain ⟨b, off, rfl, _⟩ := reads_form (hk _ hE.tail.tail.tail.tail) (by omega) (by rw [kidCells_len Hg.out]; omega)
      have hcx := kid_cells Hg.out (hk _ hE.tail.tail.tail.tail) hlt
      have Hts := SL.hid (List.take_succ_eq_append_getElem hlt)
      have htl : (ks.take k).length = k := by rw [List.length_take]; omega
      have Hx := SL.hid (Hg.out _ (List.getElem_mem hlt))
      generalize ks[k] = x at *
      generalize ks.take k = ts at *
      simp only [rowK, htl] at hE
      have Hcx := SL.hid hcx
      clear hcx
      have H36 := SL.hid (kcells_len Hx.out)
      have Hone := SL.hid (kcells_one x)
      have K0 := SL.hid (kc0 x)
      have K1 := SL.hid (kc1 x)
      have K2 := SL.hid (kc2 Hx.out)
      have K34 := SL.hid (kc34 Hx.out)
      have K35 := SL.hid (kc35 Hx.out)
      have H32 := SL.hid (show (bvals x.hash).length = 32 by rw [bvals_length, Hx.out.1])
      have hb5 := run_built_kid5 Hx.out
      have Hkc := SL.hid (show kidCells (ts ++ [x]) = kidCells ts ++ kcells x by simp [kidCells])
      generalize hxs : kcells x = xs at *
      have Hxs := SL.hid hxs
      clear hxs
      generalize x.height.toNat = g at *
      generalize x.size = sz at *
      generalize x.name = nm at *
      generalize x.dir = dr at *
      go_wp2_with (first
        | go_skip
        | ((with_reducible (show Go.wpList _ _ _ (Go.Oper.mk _ (.load 43 _) _ _ _ _ :: _) _ _)); refine wpl_load1 hE 3 rfl rfl rfl rfl (by simp [go_sem]) rfl ?_)
        | ((with_reducible (show Go.wpList _ _ _ (Go.Oper.mk _ (.load 118 _) _ _ _ _ :: _) _ _)); refine wpl_loadC rfl rfl rfl Try.isAgg118 Try.sizeOf118 xs H36.out Hcx.out ?_)
        | ((with_reducible (show Go.wpList _ _ _ (Go.Oper.mk _ (.alloc _) _ _ _ _ :: _) _ _)); refine wpl_allocN hE rfl rfl (n := 36) (by kernel_rfl) ?_; clear hE; intro b5 cs w1 hq hE6)
        | ((with_reducible (show Go.wpList _ _ _ (Go.Oper.mk _ (.store 118 _ _) _ _ _ _ :: _) _ _)); refine wpl_storeN hE6 0 rfl rfl rfl rfl rfl Try.sizeOf118 H36.out Hone.out hq ?_; clear hE6; intro w1 hE7; simp only [List.set_cons_zero] at hE7)
        | ((with_reducible (show Go.wpList _ _ _ (Go.Oper.mk _ (.load 37 _) _ _ _ _ :: _) _ _)); refine wpl_load1 hE7 1 rfl rfl rfl rfl (by simp [go_sem]) rfl ?_)
        | ((with_reducible (show Go.wpList _ _ _ (Go.Oper.mk _ (.load 9 _) _ _ _ _ :: _) _ _)); refine wpl_load1 hE7 0 rfl rfl rfl rfl (by simp [go_sem]) K0.out ?_)
        | ((with_reducible (show Go.wpList _ _ _ (Go.Oper.mk _ (.load 4 _) _ _ _ _ :: _) _ _)); refine wpl_load1 hE7 0 rfl rfl rfl rfl (by simp [go_sem]) K1.out ?_)
        | ((with_reducible (show Go.wpList _ _ _ (Go.Oper.mk _ (.load 56 _) _ _ _ _ :: _) _ _)); refine wpl_loadA hE7 0 rfl rfl rfl rfl Try.isAgg56 Try.sizeOf56 _ H32.out K2.out ?_)
        | ((with_reducible (show Go.wpList _ _ _ (Go.Oper.mk _ (.load 5 _) _ _ _ _ :: _) _ _)); refine wpl_load1 hE7 0 rfl rfl rfl rfl (by simp [go_sem]) K34.out ?_)
        | ((with_reducible (show Go.wpList _ _ _ (Go.Oper.mk _ (.load 57 _) _ _ _ _ :: _) _ _)); refine wpl_load1 hE7 0 rfl rfl rfl rfl (by simp [go_sem]) K35.out ?_)
        | ((with_reducible (show Go.wpList _ _ _ (Go.Oper.mk _ (.buildSlice _ _ _) _ _ _ _ :: _) _ _)); refine wpl_build1 hE7 rfl rfl (xs := xs) rfl Try.underlying37 (size := 36) (by kernel_rfl) Try.sizeOf59 (by decide) (by decide) H36.out ?_; clear hE7; intro bs1 w1 hE8)
        | (at_builtin; refine wpl_appendG hE8 3 rfl rfl rfl rfl rfl Try.underlying37 info_kid (by decide) (m := 1) (news := xs) (reads_pt hE8 0 rfl (fun j u hu => by rw [Nat.zero_add, List.getElem?_toArray]; exact hu)) H36.out Hone.out (by omega) (by omega) ?_; clear hE8; intro ao2 c2 w1 hE9; simp only [List.set_cons_zero, List.set_cons_succ] at hE9)
        | ((with_reducible (show Go.wpList _ _ _ (Go.Oper.mk _ (.store 37 _ _) _ _ _ _ :: _) _ _)); refine wpl_store hE9 2 rfl rfl rfl rfl rfl (by simp [go_sem]; rfl) (by rfl) (by simp [Value.cells, Value.oneCell', Act.eval]) (by simp) ?_; clear hE9; intro w hE10; simp only [Act.eval, getD_lit, List.getD_cons_succ, List.getD_cons_zero, Value.cells, List.set_cons_zero, List.set_cons_succ, List.take_succ_cons, List.take_zero, List.nil_append, List.cons_append, List.drop_succ_cons, List.drop_zero, List.length_cons, List.length_nil, Nat.reduceAdd, Nat.zero_add] at hE10))
      go_roundw
      case rel =>
        refine ⟨k + 1, ao2, c2, hlt, by simp, ?_⟩
        have hF := hE10.tail.tail
        rw [Hts.out]
        simp only [rowK, Hkc.out, List.length_append, List.length_cons, List.length_nil, Nat.zero_add]
        simp only [htl] at hF ⊢
        exact hF
      case measure => simp [intOf]; omega
    · have E2 : ks.take k = ks := by rw [show k = ks.length by omega, List.take_length]
      rw [E2] at hE
      clear E2
      go_wp2_with (first
        | go_skip
        | ((with_reducible (show Go.wpList _ _ _ (Go.Oper.mk _ (.load 43 _) _ _ _ _ :: _) _ _)); refine wpl_load1 hE 3 rfl rfl rfl rfl (by simp [go_sem]) rfl ?_)
        | ((with_reducible (show Go.wpList _ _ _ (Go.Oper.mk _ (.load 39 _) _ _ _ _ :: _) _ _)); refine wpl_loadW hE 0 rfl rfl rfl rfl Try.isAgg39 Try.sizeOf39 (xs := [.int .u8 u.toNat, .string ⟨data.toArray⟩, .slice ao ks.length c]) rfl ?_)
        | (refine wpl_storeW hE 2 rfl rfl rfl (xs := [.int .u8 u.toNat, .string ⟨data.toArray⟩, .slice ao ks.length c]) rfl rfl Try.sizeOf39 rfl (by simp [Value.oneCell']) rfl ?_; clear hE; intro w hE2; simp only [List.set_cons_zero, List.set_cons_succ] at hE2))
      refine bodyPost_ret (results_cellA rfl hE2 2 rfl rfl Try.isAgg39 Try.sizeOf39 (xs := [.int .u8 u.toNat, .string ⟨data.toArray⟩, .slice ao ks.length c]) rfl) rfl ?_
      exact ⟨_, rfl, ao, c, rfl, ((hE2.erase 0).erase 1).erase 1⟩

def greatC (c : Chunk) : Bool := decide (20 < c.kids.length) || (decide (400 < c.data.length) || c.kids.any fun k => decide (400 < k.name.length))
theorem greatC_false {c : Chunk} (h : greatC c = false) : c.kids.length ≤ 20 ∧ c.data.length ≤ 400 ∧ ∀ k ∈ c.kids, k.name.length ≤ 400 := by
  simp only [greatC, Bool.or_eq_false_iff, decide_eq_false_iff_not, List.any_eq_false, decide_eq_true_eq] at h
  exact ⟨by omega, by omega, fun k hk => by have := h.2.2 k hk; omega⟩

def GrRel (ks : List Kid) (l : List HProp) (i : Value) (wr : World) : Prop := ∃ k : Nat, k ≤ ks.length ∧ i = .int .i64 k ∧ ((ks.take k).any fun k => decide (400 < k.name.length)) = false ∧ Ent l wr

set_option maxRecDepth 100000 in
theorem great_any {u : UInt8} {data : List UInt8} {ks : List Kid} {ao : Option Addr} {c : Nat} (hg : ∀ k ∈ ks, k.good) {l : List HProp} {w : World} (hE : Ent l w) (hk : Knows l (reads (.slice ao ks.length c) ks.length (kidCells ks))) :
    Calls Try.prog 22 #[.agg #[.int .u8 u.toNat, .string ⟨data.toArray⟩, .slice ao ks.length c]] w (Ret fun v w' => v = .bool (greatC ⟨u, data, ks⟩) ∧ Ent l w') := by
  have Hg := SL.hid hg
  clear hg
  cases h20 : decide ((20 : Int) < (ks.length : Int)) with
  | true =>
    have R := SL.hid (show greatC ⟨u, data, ks⟩ = true by
      have : decide (20 < ks.length) = true := decide_eq_true (by have := of_decide_eq_true h20; omega)
      simp only [greatC, this, Bool.true_or])
    go_enter Try.func22, Try.ntmps22
    go_wp2_with (first
      | go_skip
      | ((with_reducible (show Go.wpList _ _ _ (Go.Oper.mk _ (.box _ _) _ _ _ _ :: _) _ _)); refine wpl_box hE rfl rfl rfl ?_; clear hE; intro b1 w hE; simp only [Act.eval, Act.put, List.setIfInBounds_toArray, List.set_cons_zero, List.set_cons_succ, getD_lit, List.getD_cons_succ, List.getD_cons_zero, Value.cells] at hE)
      | ((with_reducible (show Go.wpList _ _ _ (Go.Oper.mk _ (.load _ _) _ _ _ _ :: _) _ _)); first | (refine wpl_load1 hE 0 rfl rfl rfl rfl (by simp [go_sem]) rfl ?_) | (refine wpl_load1 hE 1 rfl rfl rfl rfl (by simp [go_sem]) rfl ?_) | (refine wpl_load1 hE 2 rfl rfl rfl rfl (by simp [go_sem]) rfl ?_) | (refine wpl_load1 hE 3 rfl rfl rfl rfl (by simp [go_sem]) rfl ?_) | (refine wpl_load1 hE 4 rfl rfl rfl rfl (by simp [go_sem]) rfl ?_) | (refine wpl_load1 hE 5 rfl rfl rfl rfl (by simp [go_sem]) rfl ?_)))
    go_ret
    exact ⟨_, rfl, by rw [R.out]; rfl, hE.tail⟩
  | false =>
    have e20 : decide (20 < ks.length) = false := decide_eq_false (by have := of_decide_eq_false h20; omega)
    have hn : ks.length ≤ 20 := by have := of_decide_eq_false h20; omega
    cases h4 : decide ((400 : Int) < (data.length : Int)) with
    | true =>
      have R := SL.hid (show greatC ⟨u, data, ks⟩ = true by
        have : decide (400 < data.length) = true := decide_eq_true (by have := of_decide_eq_true h4; omega)
        simp only [greatC, this, Bool.true_or, Bool.or_true])
      clear e20
      go_enter Try.func22, Try.ntmps22
      go_wp2_with (first
        | go_skip
        | ((with_reducible (show Go.wpList _ _ _ (Go.Oper.mk _ (.box _ _) _ _ _ _ :: _) _ _)); refine wpl_box hE rfl rfl rfl ?_; clear hE; intro b1 w hE; simp only [Act.eval, Act.put, List.setIfInBounds_toArray, List.set_cons_zero, List.set_cons_succ, getD_lit, List.getD_cons_succ, List.getD_cons_zero, Value.cells] at hE)
        | ((with_reducible (show Go.wpList _ _ _ (Go.Oper.mk _ (.load _ _) _ _ _ _ :: _) _ _)); first | (refine wpl_load1 hE 0 rfl rfl rfl rfl (by simp [go_sem]) rfl ?_) | (refine wpl_load1 hE 1 rfl rfl rfl rfl (by simp [go_sem]) rfl ?_) | (refine wpl_load1 hE 2 rfl rfl rfl rfl (by simp [go_sem]) rfl ?_) | (refine wpl_load1 hE 3 rfl rfl rfl rfl (by simp [go_sem]) rfl ?_) | (refine wpl_load1 hE 4 rfl rfl rfl rfl (by simp [go_sem]) rfl ?_) | (refine wpl_load1 hE 5 rfl rfl rfl rfl (by simp [go_sem]) rfl ?_)))
      go_ret
      exact ⟨_, rfl, by rw [R.out]; rfl, hE.tail⟩
    | false =>
      have R0 := SL.hid (show greatC ⟨u, data, ks⟩ = ks.any (fun k => decide (400 < k.name.length)) by
        have : decide (400 < data.length) = false := decide_eq_false (by have := of_decide_eq_false h4; omega)
        simp only [greatC, this, e20, Bool.false_or])
      clear e20
      go_enter Try.func22, Try.ntmps22
      go_wp2_with (first
        | go_skip
        | ((with_reducible (show Go.wpList _ _ _ (Go.Oper.mk _ (.box _ _) _ _ _ _ :: _) _ _)); refine wpl_box hE rfl rfl rfl ?_; clear hE; intro b1 w hE; simp only [Act.eval, Act.put, List.setIfInBounds_toArray, List.set_cons_zero, List.set_cons_succ, getD_lit, List.getD_cons_succ, List.getD_cons_zero, Value.cells] at hE)
        | ((with_reducible (show Go.wpList _ _ _ (Go.Oper.mk _ (.load _ _) _ _ _ _ :: _) _ _)); first | (refine wpl_load1 hE 0 rfl rfl rfl rfl (by simp [go_sem]) rfl ?_) | (refine wpl_load1 hE 1 rfl rfl rfl rfl (by simp [go_sem]) rfl ?_) | (refine wpl_load1 hE 2 rfl rfl rfl rfl (by simp [go_sem]) rfl ?_) | (refine wpl_load1 hE 3 rfl rfl rfl rfl (by simp [go_sem]) rfl ?_) | (refine wpl_load1 hE 4 rfl rfl rfl rfl (by simp [go_sem]) rfl ?_) | (refine wpl_load1 hE 5 rfl rfl rfl rfl (by simp [go_sem]) rfl ?_)))
      go_loopw [3] (fun i wr => GrRel ks (pt b1 (.cells #[.int .u8 u.toNat, .string ⟨data.toArray⟩, .slice ao ks.length c] 45) :: l) i wr) (fun i _ => ks.length - (intOf i).toNat)
      case atStart => exact ⟨0, Nat.zero_le _, rfl, rfl, hE⟩
      case round =>
        clear hE
        obtain ⟨k, hkl, rfl, hall, hE⟩ := hrel
        have Hall := SL.hid hall
        clear hall
        by_cases hlt : k < ks.length
        · obtain ⟨b, off, rfl, _⟩ := reads_form (hk _ hE.tail) (by omega) (by rw [kidCells_len Hg.out]; omega)
          have hcx := kid_cells Hg.out (hk _ hE.tail) hlt
          have Hs := SL.hid (show ((ks.take (k + 1)).any fun k => decide (400 < k.name.length)) = (((ks.take k).any fun k => decide (400 < k.name.length)) || decide (400 < (ks[k]).name.length)) by rw [List.take_succ_eq_append_getElem hlt, List.any_append]; simp)
          have hyes : decide (400 < (ks[k]).name.length) = true → ks.any (fun k => decide (400 < k.name.length)) = true := fun h => by
            rw [List.any_eq_true]
            exact ⟨_, List.getElem_mem hlt, h⟩
          have Hyes := SL.hid hyes
          clear hyes
          have k0 := kc0 ks[k]
          rw [List.getElem?_toArray] at k0
          have c0 := hcx _ _ k0
          rw [Addr.add_lit, Nat.add_zero] at c0
          clear hcx k0
          generalize (ks[k]).name = nm at *
          cases h5 : decide ((400 : Int) < (nm.length : Int)) with
          | true =>
            have H5 := SL.hid (show decide (400 < nm.length) = true from decide_eq_true (by have := of_decide_eq_true h5; omega))
            go_wp2_with (first
              | go_skip
              | ((with_reducible (show Go.wpList _ _ _ (Go.Oper.mk _ (.load _ _) _ _ _ _ :: _) _ _)); first | (refine wpl_load1 hE 0 rfl rfl rfl rfl (by simp [go_sem]) rfl ?_) | (refine wpl_load1 hE 1 rfl rfl rfl rfl (by simp [go_sem]) rfl ?_) | (refine wpl_load1 hE 2 rfl rfl rfl rfl (by simp [go_sem]) rfl ?_) | (refine wpl_load1 hE 3 rfl rfl rfl rfl (by simp [go_sem]) rfl ?_) | (refine wpl_load1 hE 4 rfl rfl rfl rfl (by simp [go_sem]) rfl ?_) | (refine wpl_load1 hE 5 rfl rfl rfl rfl (by simp [go_sem]) rfl ?_)))
            go_ret
            exact ⟨_, rfl, by rw [R0.out, Hyes.out H5.out]; rfl, hE.tail⟩
          | false =>
            have H5 := SL.hid (show decide (400 < nm.length) = false from decide_eq_false (by have := of_decide_eq_false h5; omega))
            go_wp2_with (first
              | go_skip
              | ((with_reducible (show Go.wpList _ _ _ (Go.Oper.mk _ (.load _ _) _ _ _ _ :: _) _ _)); first | (refine wpl_load1 hE 0 rfl rfl rfl rfl (by simp [go_sem]) rfl ?_) | (refine wpl_load1 hE 1 rfl rfl rfl rfl (by simp [go_sem]) rfl ?_) | (refine wpl_load1 hE 2 rfl rfl rfl rfl (by simp [go_sem]) rfl ?_) | (refine wpl_load1 hE 3 rfl rfl rfl rfl (by simp [go_sem]) rfl ?_) | (refine wpl_load1 hE 4 rfl rfl rfl rfl (by simp [go_sem]) rfl ?_) | (refine wpl_load1 hE 5 rfl rfl rfl rfl (by simp [go_sem]) rfl ?_)))
            go_roundw
            case rel => exact ⟨k + 1, hlt, by simp, by rw [Hs.out, Hall.out, H5.out]; rfl, hE⟩
            case measure => simp [intOf]; omega
        · have E2 := SL.hid (show ks.any (fun k => decide (400 < k.name.length)) = false by
            have := Hall.out
            rwa [show k = ks.length by omega, List.take_length] at this)
          go_wp2_with (first
            | go_skip
            | ((with_reducible (show Go.wpList _ _ _ (Go.Oper.mk _ (.load _ _) _ _ _ _ :: _) _ _)); first | (refine wpl_load1 hE 0 rfl rfl rfl rfl (by simp [go_sem]) rfl ?_) | (refine wpl_load1 hE 1 rfl rfl rfl rfl (by simp [go_sem]) rfl ?_) | (refine wpl_load1 hE 2 rfl rfl rfl rfl (by simp [go_sem]) rfl ?_) | (refine wpl_load1 hE 3 rfl rfl rfl rfl (by simp [go_sem]) rfl ?_) | (refine wpl_load1 hE 4 rfl rfl rfl rfl (by simp [go_sem]) rfl ?_) | (refine wpl_load1 hE 5 rfl rfl rfl rfl (by simp [go_sem]) rfl ?_)))
          go_ret
          exact ⟨_, rfl, by rw [R0.out, E2.out]; rfl, hE.tail⟩
end Go.Proofs.Ytohdljcpaogokaa
