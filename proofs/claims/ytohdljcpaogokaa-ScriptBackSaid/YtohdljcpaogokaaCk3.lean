/-
  The size of a chunk, the program's and the document's; whether a child is plain.
-/
import Derived.Test.YtohdljcpaogokaaCk2
namespace Go.Proofs.Ytohdljcpaogokaa
open Go.RowKit Go.SL

def sizeB (u : UInt8) (data : List UInt8) (ks : List Kid) : Nat := if u == 2 then sum1 ks else if u == 3 then 0 else data.length
theorem csize_eq (c : Chunk) : csize c = sizeB c.kind c.data c.kids := rfl
theorem sum1_snoc (ks : List Kid) (k : Kid) : sum1 (ks ++ [k]) = sum1 ks + k.size := by simp [sum1]
theorem sum1_le : ∀ {ks : List Kid}, (∀ k ∈ ks, k.good) → sum1 ks ≤ ks.length * 4294967296
  | [], _ => by simp [sum1]
  | k :: ks, h => by
    have h1 := (h k (by simp)).2
    have h2 := sum1_le (ks := ks) (fun k hk => h k (by simp [hk]))
    simp only [sum1, List.map_cons, List.sum_cons, List.length_cons] at h2 ⊢
    omega
theorem u_is {u : UInt8} {n : Nat} (hn : n < 256) (h : ((u.toNat : Int) == (n : Int)) = true) : u = UInt8.ofNat n := by
  apply UInt8.toNat_inj.1
  have h' : (u.toNat : Int) = n := by simpa using h
  simp
  omega
theorem u_not {u : UInt8} {n : Nat} (hn : n < 256) (h : ((u.toNat : Int) == (n : Int)) = false) : (u == UInt8.ofNat n) = false := by
  simp only [beq_eq_false_iff_ne, ne_eq] at h ⊢
  rintro rfl
  apply h
  simp
  omega

set_option maxRecDepth 100000 in
theorem Size_3 {data : List UInt8} {sl : Value} {l : List HProp} {w : World} (hE : Ent l w) :
    Calls Try.prog 54 #[.agg #[.int .u8 3, .string ⟨data.toArray⟩, sl]] w (Ret fun v w' => v = .int .u64 0 ∧ Ent l w') := by
  go_enter Try.func54, Try.ntmps54
  go_wp2_with (first
    | go_skip
    | ((with_reducible (show Go.wpList _ _ _ (Go.Oper.mk _ (.box _ _) _ _ _ _ :: _) _ _)); refine wpl_box hE rfl rfl rfl ?_; clear hE; intro b1 w hE; simp only [Act.eval, Act.put, List.setIfInBounds_toArray, List.set_cons_zero, List.set_cons_succ, getD_lit, List.getD_cons_succ, List.getD_cons_zero, Value.cells] at hE)
    | ((with_reducible (show Go.wpList _ _ _ (Go.Oper.mk _ (.load _ _) _ _ _ _ :: _) _ _)); first | (refine wpl_load1 hE 0 rfl rfl rfl rfl (by simp [go_sem]) rfl ?_) | (refine wpl_load1 hE 1 rfl rfl rfl rfl (by simp [go_sem]) rfl ?_) | (refine wpl_load1 hE 2 rfl rfl rfl rfl (by simp [go_sem]) rfl ?_) | (refine wpl_load1 hE 3 rfl rfl rfl rfl (by simp [go_sem]) rfl ?_) | (refine wpl_load1 hE 4 rfl rfl rfl rfl (by simp [go_sem]) rfl ?_) | (refine wpl_load1 hE 5 rfl rfl rfl rfl (by simp [go_sem]) rfl ?_)))
  go_ret
  exact ⟨_, rfl, rfl, hE.tail⟩

set_option maxRecDepth 100000 in
theorem Size_not {u : UInt8} {data : List UInt8} {sl : Value} (h2 : ((u.toNat : Int) == 2) = false) (h3 : ((u.toNat : Int) == 3) = false) (hd : IntKind.u64.wrap (data.length : Int) = data.length) {l : List HProp} {w : World} (hE : Ent l w) :
    Calls Try.prog 54 #[.agg #[.int .u8 u.toNat, .string ⟨data.toArray⟩, sl]] w (Ret fun v w' => v = .int .u64 data.length ∧ Ent l w') := by
  go_enter Try.func54, Try.ntmps54
  go_wp2_with (first
    | go_skip
    | ((with_reducible (show Go.wpList _ _ _ (Go.Oper.mk _ (.box _ _) _ _ _ _ :: _) _ _)); refine wpl_box hE rfl rfl rfl ?_; clear hE; intro b1 w hE; simp only [Act.eval, Act.put, List.setIfInBounds_toArray, List.set_cons_zero, List.set_cons_succ, getD_lit, List.getD_cons_succ, List.getD_cons_zero, Value.cells] at hE)
    | ((with_reducible (show Go.wpList _ _ _ (Go.Oper.mk _ (.load _ _) _ _ _ _ :: _) _ _)); first | (refine wpl_load1 hE 0 rfl rfl rfl rfl (by simp [go_sem]) rfl ?_) | (refine wpl_load1 hE 1 rfl rfl rfl rfl (by simp [go_sem]) rfl ?_) | (refine wpl_load1 hE 2 rfl rfl rfl rfl (by simp [go_sem]) rfl ?_) | (refine wpl_load1 hE 3 rfl rfl rfl rfl (by simp [go_sem]) rfl ?_) | (refine wpl_load1 hE 4 rfl rfl rfl rfl (by simp [go_sem]) rfl ?_) | (refine wpl_load1 hE 5 rfl rfl rfl rfl (by simp [go_sem]) rfl ?_)))
  go_ret
  exact ⟨_, rfl, rfl, hE.tail⟩

def SzRel (ks : List Kid) (l : List HProp) (s i : Value) (wr : World) : Prop := ∃ k : Nat, k ≤ ks.length ∧ i = .int .i64 k ∧ s = .int .u64 (sum1 (ks.take k) : Nat) ∧ Ent l wr

set_option maxRecDepth 100000 in
theorem Size_2 {data : List UInt8} {ks : List Kid} {ao : Option Addr} {c : Nat} (hg : ∀ k ∈ ks, k.good) (hb : ks.length ≤ 1000000) {l : List HProp} {w : World} (hE : Ent l w) (hk : Knows l (reads (.slice ao ks.length c) ks.length (kidCells ks))) :
    Calls Try.prog 54 #[.agg #[.int .u8 2, .string ⟨data.toArray⟩, .slice ao ks.length c]] w (Ret fun v w' => v = .int .u64 (sum1 ks) ∧ Ent l w') := by
  have Hg := SL.hid hg
  clear hg
  go_enter Try.func54, Try.ntmps54
  go_wp2_with (first
    | go_skip
    | ((with_reducible (show Go.wpList _ _ _ (Go.Oper.mk _ (.box _ _) _ _ _ _ :: _) _ _)); refine wpl_box hE rfl rfl rfl ?_; clear hE; intro b1 w hE; simp only [Act.eval, Act.put, List.setIfInBounds_toArray, List.set_cons_zero, List.set_cons_succ, getD_lit, List.getD_cons_succ, List.getD_cons_zero, Value.cells] at hE)
    | ((with_reducible (show Go.wpList _ _ _ (Go.Oper.mk _ (.load _ _) _ _ _ _ :: _) _ _)); first | (refine wpl_load1 hE 0 rfl rfl rfl rfl (by simp [go_sem]) rfl ?_) | (refine wpl_load1 hE 1 rfl rfl rfl rfl (by simp [go_sem]) rfl ?_) | (refine wpl_load1 hE 2 rfl rfl rfl rfl (by simp [go_sem]) rfl ?_) | (refine wpl_load1 hE 3 rfl rfl rfl rfl (by simp [go_sem]) rfl ?_) | (refine wpl_load1 hE 4 rfl rfl rfl rfl (by simp [go_sem]) rfl ?_) | (refine wpl_load1 hE 5 rfl rfl rfl rfl (by simp [go_sem]) rfl ?_)))
  go_loopw [3, 13] (fun s i wr => SzRel ks (pt b1 (.cells #[.int .u8 2, .string ⟨data.toArray⟩, .slice ao ks.length c] 39) :: l) s i wr) (fun _ i _ => ks.length - (intOf i).toNat)
  case atStart => exact ⟨0, Nat.zero_le _, rfl, rfl, hE⟩
  case round =>
    obtain ⟨k, hkl, rfl, rfl, hE⟩ := hrel
    by_cases hlt : k < ks.length
    · obtain ⟨b, off, rfl, _⟩ := reads_form (hk _ hE.tail) (by omega) (by rw [kidCells_len Hg.out]; omega)
      have hcx := kid_cells Hg.out (hk _ hE.tail) hlt
      have hs := sum1_le (ks := ks.take k) (fun k hk => Hg.out k (List.mem_of_mem_take hk))
      rw [List.length_take] at hs
      have Hs := SL.hid (show sum1 (ks.take (k + 1)) = sum1 (ks.take k) + ks[k].size by rw [List.take_succ_eq_append_getElem hlt, sum1_snoc])
      have Hx := SL.hid (Hg.out _ (List.getElem_mem hlt))
      generalize ks[k] = x at *
      have Hcx := SL.hid hcx
      clear hcx
      have H36 := SL.hid (kcells_len Hx.out)
      have Hone := SL.hid (kcells_one x)
      have K35 := SL.hid (kc35 Hx.out)
      have hsz := Hx.out.2
      have hw0 : IntKind.u64.wrap (x.size : Int) = x.size := by rw [wrapU_id (by omega)]
      have hw : IntKind.u64.wrap ((sum1 (ks.take k) : Int) + (x.size : Int)) = ((sum1 (ks.take k) + x.size : Nat) : Int) := by rw [wrapU_id (by omega)]; omega
      generalize hm : sum1 (ks.take k) + x.size = m at *
      generalize sum1 (ks.take k) = n at *
      generalize x.size = y at *
      clear hm hs hsz
      go_wp2_with (first
        | go_skip
        | (refine wpl_loadC rfl rfl rfl Try.isAgg59 Try.sizeOf59 (kcells x) H36.out Hcx.out ?_)
        | ((with_reducible (show Go.wpList _ _ _ (Go.Oper.mk _ (.alloc _) _ _ _ _ :: _) _ _)); refine wpl_allocN hE rfl rfl (n := 36) (by kernel_rfl) ?_; clear hE; intro b6 cs w1 hq hE6)
        | ((with_reducible (show Go.wpList _ _ _ (Go.Oper.mk _ (.store _ _ _) _ _ _ _ :: _) _ _)); refine wpl_storeN hE6 0 rfl rfl rfl rfl rfl Try.sizeOf59 H36.out Hone.out hq ?_; clear hE6; intro w1 hE7; simp only [List.set_cons_zero] at hE7)
        | ((with_reducible (show Go.wpList _ _ _ (Go.Oper.mk _ (.load _ _) _ _ _ _ :: _) _ _)); refine wpl_load1 hE7 0 rfl rfl rfl rfl (by simp [go_sem]) K35.out ?_))
      go_roundw
      case rel => exact ⟨k + 1, hlt, by simp, by rw [Hs.out], hE7.tail⟩
      case measure => simp [intOf]; omega
    · have E2 : sum1 (ks.take k) = sum1 ks := by rw [show k = ks.length by omega, List.take_length]
      generalize sum1 (ks.take k) = n at *
      subst E2
      go_wp2_with (first | go_skip | ((with_reducible (show Go.wpList _ _ _ (Go.Oper.mk _ (.load _ _) _ _ _ _ :: _) _ _)); first | (refine wpl_load1 hE 0 rfl rfl rfl rfl (by simp [go_sem]) rfl ?_) | (refine wpl_load1 hE 1 rfl rfl rfl rfl (by simp [go_sem]) rfl ?_) | (refine wpl_load1 hE 2 rfl rfl rfl rfl (by simp [go_sem]) rfl ?_) | (refine wpl_load1 hE 3 rfl rfl rfl rfl (by simp [go_sem]) rfl ?_) | (refine wpl_load1 hE 4 rfl rfl rfl rfl (by simp [go_sem]) rfl ?_) | (refine wpl_load1 hE 5 rfl rfl rfl rfl (by simp [go_sem]) rfl ?_)))
      go_ret
      exact ⟨_, rfl, rfl, hE.tail⟩

theorem Size_any {u : UInt8} {data : List UInt8} {ks : List Kid} {ao : Option Addr} {c : Nat} (hg : ∀ k ∈ ks, k.good) (hb : ks.length ≤ 1000000) (hd : data.length ≤ 1099511627776) {l : List HProp} {w : World} (hE : Ent l w) (hk : Knows l (reads (.slice ao ks.length c) ks.length (kidCells ks))) :
    Calls Try.prog 54 #[.agg #[.int .u8 u.toNat, .string ⟨data.toArray⟩, .slice ao ks.length c]] w (Ret fun v w' => v = .int .u64 (sizeB u data ks) ∧ Ent l w') := by
  cases h2 : ((u.toNat : Int) == 2) with
  | true => obtain rfl := u_is (n := 2) (by omega) h2; exact Size_2 hg hb hE hk
  | false =>
    cases h3 : ((u.toNat : Int) == 3) with
    | true => obtain rfl := u_is (n := 3) (by omega) h3; exact Size_3 hE
    | false =>
      have e2 := u_not (n := 2) (by omega) h2
      have e3 := u_not (n := 3) (by omega) h3
      have e : sizeB u data ks = data.length := by
        unfold sizeB
        rw [if_neg (by rw [show (2 : UInt8) = UInt8.ofNat 2 from rfl, e2]; simp), if_neg (by rw [show (3 : UInt8) = UInt8.ofNat 3 from rfl, e3]; simp)]
      rw [e]
      exact Size_not h2 h3 (wrapU_id (by omega)) hE

set_option maxRecDepth 100000 in
theorem rSize_3 {data : List UInt8} {sl : Value} {l : List HProp} {w : World} (hE : Ent l w) :
    Calls Try.prog 99 #[.agg #[.int .u8 3, .string ⟨data.toArray⟩, sl]] w (Ret fun v w' => v = .int .u64 0 ∧ Ent l w') := by
  go_enter Try.func99, Try.ntmps99
  go_wp2_with (first
    | go_skip
    | ((with_reducible (show Go.wpList _ _ _ (Go.Oper.mk _ (.box _ _) _ _ _ _ :: _) _ _)); refine wpl_box hE rfl rfl rfl ?_; clear hE; intro b1 w hE; simp only [Act.eval, Act.put, List.setIfInBounds_toArray, List.set_cons_zero, List.set_cons_succ, getD_lit, List.getD_cons_succ, List.getD_cons_zero, Value.cells] at hE)
    | ((with_reducible (show Go.wpList _ _ _ (Go.Oper.mk _ (.load _ _) _ _ _ _ :: _) _ _)); first | (refine wpl_load1 hE 0 rfl rfl rfl rfl (by simp [go_sem]) rfl ?_) | (refine wpl_load1 hE 1 rfl rfl rfl rfl (by simp [go_sem]) rfl ?_) | (refine wpl_load1 hE 2 rfl rfl rfl rfl (by simp [go_sem]) rfl ?_) | (refine wpl_load1 hE 3 rfl rfl rfl rfl (by simp [go_sem]) rfl ?_) | (refine wpl_load1 hE 4 rfl rfl rfl rfl (by simp [go_sem]) rfl ?_) | (refine wpl_load1 hE 5 rfl rfl rfl rfl (by simp [go_sem]) rfl ?_)))
  go_ret
  exact ⟨_, rfl, rfl, hE.tail⟩

set_option maxRecDepth 100000 in
theorem rSize_not {u : UInt8} {data : List UInt8} {sl : Value} (h2 : ((u.toNat : Int) == 2) = false) (h3 : ((u.toNat : Int) == 3) = false) (hd : IntKind.u64.wrap (data.length : Int) = data.length) {l : List HProp} {w : World} (hE : Ent l w) :
    Calls Try.prog 99 #[.agg #[.int .u8 u.toNat, .string ⟨data.toArray⟩, sl]] w (Ret fun v w' => v = .int .u64 data.length ∧ Ent l w') := by
  have h2' : ((u.toNat : Int) != 2) = true := by simp only [bne, h2]; rfl
  go_enter Try.func99, Try.ntmps99
  go_wp2_with (first
    | go_skip
    | ((with_reducible (show Go.wpList _ _ _ (Go.Oper.mk _ (.box _ _) _ _ _ _ :: _) _ _)); refine wpl_box hE rfl rfl rfl ?_; clear hE; intro b1 w hE; simp only [Act.eval, Act.put, List.setIfInBounds_toArray, List.set_cons_zero, List.set_cons_succ, getD_lit, List.getD_cons_succ, List.getD_cons_zero, Value.cells] at hE)
    | ((with_reducible (show Go.wpList _ _ _ (Go.Oper.mk _ (.load _ _) _ _ _ _ :: _) _ _)); first | (refine wpl_load1 hE 0 rfl rfl rfl rfl (by simp [go_sem]) rfl ?_) | (refine wpl_load1 hE 1 rfl rfl rfl rfl (by simp [go_sem]) rfl ?_) | (refine wpl_load1 hE 2 rfl rfl rfl rfl (by simp [go_sem]) rfl ?_) | (refine wpl_load1 hE 3 rfl rfl rfl rfl (by simp [go_sem]) rfl ?_) | (refine wpl_load1 hE 4 rfl rfl rfl rfl (by simp [go_sem]) rfl ?_) | (refine wpl_load1 hE 5 rfl rfl rfl rfl (by simp [go_sem]) rfl ?_)))
  go_ret
  exact ⟨_, rfl, rfl, hE.tail⟩

set_option maxRecDepth 100000 in
theorem rSize_2 {data : List UInt8} {ks : List Kid} {ao : Option Addr} {c : Nat} (hg : ∀ k ∈ ks, k.good) (hb : ks.length ≤ 1000000) {l : List HProp} {w : World} (hE : Ent l w) (hk : Knows l (reads (.slice ao ks.length c) ks.length (kidCells ks))) :
    Calls Try.prog 99 #[.agg #[.int .u8 2, .string ⟨data.toArray⟩, .slice ao ks.length c]] w (Ret fun v w' => v = .int .u64 (sum1 ks) ∧ Ent l w') := by
  have Hg := SL.hid hg
  clear hg
  go_enter Try.func99, Try.ntmps99
  go_wp2_with (first
    | go_skip
    | ((with_reducible (show Go.wpList _ _ _ (Go.Oper.mk _ (.box _ _) _ _ _ _ :: _) _ _)); refine wpl_box hE rfl rfl rfl ?_; clear hE; intro b1 w hE; simp only [Act.eval, Act.put, List.setIfInBounds_toArray, List.set_cons_zero, List.set_cons_succ, getD_lit, List.getD_cons_succ, List.getD_cons_zero, Value.cells] at hE)
    | ((with_reducible (show Go.wpList _ _ _ (Go.Oper.mk _ (.load _ _) _ _ _ _ :: _) _ _)); first | (refine wpl_load1 hE 0 rfl rfl rfl rfl (by simp [go_sem]) rfl ?_) | (refine wpl_load1 hE 1 rfl rfl rfl rfl (by simp [go_sem]) rfl ?_) | (refine wpl_load1 hE 2 rfl rfl rfl rfl (by simp [go_sem]) rfl ?_) | (refine wpl_load1 hE 3 rfl rfl rfl rfl (by simp [go_sem]) rfl ?_) | (refine wpl_load1 hE 4 rfl rfl rfl rfl (by simp [go_sem]) rfl ?_) | (refine wpl_load1 hE 5 rfl rfl rfl rfl (by simp [go_sem]) rfl ?_)))
  go_loopw [3, 4] (fun s i wr => SzRel ks (pt b1 (.cells #[.int .u8 2, .string ⟨data.toArray⟩, .slice ao ks.length c] 45) :: l) s i wr) (fun _ i _ => ks.length - (intOf i).toNat)
  case atStart => exact ⟨0, Nat.zero_le _, rfl, rfl, hE⟩
  case round =>
    obtain ⟨k, hkl, rfl, rfl, hE⟩ := hrel
    by_cases hlt : k < ks.length
    · obtain ⟨b, off, rfl, _⟩ := reads_form (hk _ hE.tail) (by omega) (by rw [kidCells_len Hg.out]; omega)
      have hcx := kid_cells Hg.out (hk _ hE.tail) hlt
      have hs := sum1_le (ks := ks.take k) (fun k hk => Hg.out k (List.mem_of_mem_take hk))
      rw [List.length_take] at hs
      have Hs := SL.hid (show sum1 (ks.take (k + 1)) = sum1 (ks.take k) + ks[k].size by rw [List.take_succ_eq_append_getElem hlt, sum1_snoc])
      have Hx := SL.hid (Hg.out _ (List.getElem_mem hlt))
      generalize ks[k] = x at *
      have k35 := kc35 Hx.out
      rw [List.getElem?_toArray] at k35
      have c35 := hcx _ _ k35
      rw [Addr.add_lit] at c35
      clear hcx k35
      have hsz := Hx.out.2
      have hw0 : IntKind.u64.wrap (x.size : Int) = x.size := by rw [wrapU_id (by omega)]
      have hw : IntKind.u64.wrap ((sum1 (ks.take k) : Int) + (x.size : Int)) = ((sum1 (ks.take k) + x.size : Nat) : Int) := by rw [wrapU_id (by omega)]; omega
      generalize hm : sum1 (ks.take k) + x.size = m at *
      generalize sum1 (ks.take k) = n at *
      generalize x.size = y at *
      clear hm hs hsz
      go_wp2_with (first | go_skip | ((with_reducible (show Go.wpList _ _ _ (Go.Oper.mk _ (.load _ _) _ _ _ _ :: _) _ _)); first | (refine wpl_load1 hE 0 rfl rfl rfl rfl (by simp [go_sem]) rfl ?_) | (refine wpl_load1 hE 1 rfl rfl rfl rfl (by simp [go_sem]) rfl ?_) | (refine wpl_load1 hE 2 rfl rfl rfl rfl (by simp [go_sem]) rfl ?_) | (refine wpl_load1 hE 3 rfl rfl rfl rfl (by simp [go_sem]) rfl ?_) | (refine wpl_load1 hE 4 rfl rfl rfl rfl (by simp [go_sem]) rfl ?_) | (refine wpl_load1 hE 5 rfl rfl rfl rfl (by simp [go_sem]) rfl ?_)))
      go_roundw
      case rel => exact ⟨k + 1, hlt, by simp, by rw [Hs.out], hE⟩
      case measure => simp [intOf]; omega
    · have E2 : sum1 (ks.take k) = sum1 ks := by rw [show k = ks.length by omega, List.take_length]
      generalize sum1 (ks.take k) = n at *
      subst E2
      go_wp2_with (first | go_skip | ((with_reducible (show Go.wpList _ _ _ (Go.Oper.mk _ (.load _ _) _ _ _ _ :: _) _ _)); first | (refine wpl_load1 hE 0 rfl rfl rfl rfl (by simp [go_sem]) rfl ?_) | (refine wpl_load1 hE 1 rfl rfl rfl rfl (by simp [go_sem]) rfl ?_) | (refine wpl_load1 hE 2 rfl rfl rfl rfl (by simp [go_sem]) rfl ?_) | (refine wpl_load1 hE 3 rfl rfl rfl rfl (by simp [go_sem]) rfl ?_) | (refine wpl_load1 hE 4 rfl rfl rfl rfl (by simp [go_sem]) rfl ?_) | (refine wpl_load1 hE 5 rfl rfl rfl rfl (by simp [go_sem]) rfl ?_)))
      go_ret
      exact ⟨_, rfl, rfl, hE.tail⟩

theorem rSize_any {u : UInt8} {data : List UInt8} {ks : List Kid} {ao : Option Addr} {c : Nat} (hg : ∀ k ∈ ks, k.good) (hb : ks.length ≤ 1000000) (hd : data.length ≤ 1099511627776) {l : List HProp} {w : World} (hE : Ent l w) (hk : Knows l (reads (.slice ao ks.length c) ks.length (kidCells ks))) :
    Calls Try.prog 99 #[.agg #[.int .u8 u.toNat, .string ⟨data.toArray⟩, .slice ao ks.length c]] w (Ret fun v w' => v = .int .u64 (sizeB u data ks) ∧ Ent l w') := by
  cases h2 : ((u.toNat : Int) == 2) with
  | true => obtain rfl := u_is (n := 2) (by omega) h2; exact rSize_2 hg hb hE hk
  | false =>
    cases h3 : ((u.toNat : Int) == 3) with
    | true => obtain rfl := u_is (n := 3) (by omega) h3; exact rSize_3 hE
    | false =>
      have e2 := u_not (n := 2) (by omega) h2
      have e3 := u_not (n := 3) (by omega) h3
      have e : sizeB u data ks = data.length := by
        unfold sizeB
        rw [if_neg (by rw [show (2 : UInt8) = UInt8.ofNat 2 from rfl, e2]; simp), if_neg (by rw [show (3 : UInt8) = UInt8.ofNat 3 from rfl, e3]; simp)]
      rw [e]
      exact rSize_not h2 h3 (wrapU_id (by omega)) hE
end Go.Proofs.Ytohdljcpaogokaa
