/-
  A node's page, as the program puts it. Printed by gen_nd5.py.
-/
import Derived.Test.YtohdljcpaogokaaNd4b
import Derived.Test.YtohdljcpaogokaaPk5
import Derived.Shelf.Lay
import Derived.Shelf.Strings.Repeat
namespace Go.SL
theorem Ent.ofBelowQ {l : List HProp} {w w' : World} (h : Ent l w) (hb : RowKit.Below w.heap.size w w') : Ent l w' := by
  have := h.step0 (Bs := []) ⟨hb.os, hb.tape, hb.output⟩ hb.size hb.block ⟨fun _ => False, fun _ h => h, fun _ h => h.elim⟩
  exact this
end Go.SL
namespace Go.Proofs
open Go.Shelf
shelf_lay Lays.n105 Nm 105 at Try as Try.lays105
theorem Try.Builder_Extra_105 : Builder.Extra Try.prog Try.lays105_ren where
  sizeBuilder := by kernel_rfl
  liesBuilder := by kernel_rfl
  t5 := Try.underlying5
  a5 := Try.isAgg5
  z5 := Try.sizeOf5
  v5 := Try.zeroValue5
  infoByte := by kernel_rfl
  cellsByte := by kernel_rfl
  sizeByte := by kernel_rfl
  neB5 := by decide
end Go.Proofs
namespace Go.Proofs.Ytohdljcpaogokaa
open Go.RowKit Go.SL

theorem repeat_zero : ∀ n : Nat, Lib.repeatL [0] n = List.replicate n 0
  | 0 => rfl
  | n + 1 => by rw [Lib.repeatL, repeat_zero n]; rfl
theorem Repeat_zeros (n : Nat) (hn : n ≤ 1000000) {l : List HProp} {w : World} (hE : Ent l w) :
    Calls Try.prog 71 #[.string ⟨#[0]⟩, .int .i64 n] w (Ret fun v w' => v = .string ⟨(List.replicate n 0).toArray⟩ ∧ Ent l w') := by
  have h : Calls Try.prog 71 #[.string ⟨#[0]⟩, .int .i64 n] w fun e w' => e = .returned (.string ⟨(Lib.repeatL [0] n).toArray⟩) ∧ Below w.heap.size w w' :=
    Any.strings_Repeat Try.lays105 Try.Builder_Extra_105 ⟨#[0]⟩ n w (by omega) (by show 1 * n ≤ _; omega)
  rw [repeat_zero] at h
  refine h.mono ?_
  rintro e w' ⟨rfl, hb⟩
  exact ⟨_, rfl, rfl, hE.ofBelowQ hb⟩

theorem pPut1 {p n : Nat} (hn : n < 256) {l : List HProp} {w : World} {bs : List UInt8} {err : Int} (hE : Ent (packer p bs err :: l) w) (hb : bs.length ≤ 1000000) :
    Calls Try.prog 42 #[.pointer (some ⟨p, 0, none⟩), .int .i64 1, .int .u64 n] w (Ret fun v w' => v = .pointer (some ⟨p, 0, none⟩) ∧ Ent (packer p (bs ++ [UInt8.ofNat n]) err :: l) w') := by
  have h := Put_any p n 1 hE (by omega)
  have e : numOk 1 n = true := by simp [numOk, wideB]; omega
  rw [e] at h
  rw [← be_one]
  exact h
theorem pPut2 {p n : Nat} (hn : n < 65536) {l : List HProp} {w : World} {bs : List UInt8} {err : Int} (hE : Ent (packer p bs err :: l) w) (hb : bs.length ≤ 1000000) :
    Calls Try.prog 42 #[.pointer (some ⟨p, 0, none⟩), .int .i64 2, .int .u64 n] w (Ret fun v w' => v = .pointer (some ⟨p, 0, none⟩) ∧ Ent (packer p (bs ++ be 2 n) err :: l) w') := by
  have h := Put_any p n 2 hE (by omega)
  have e : numOk 2 n = true := by simp [numOk, wideB]; omega
  rw [e] at h
  exact h

def putU (kw vw : Int) (n : Nd) : List UInt8 := if mayN kw vw n then pageU n else []
def putE (kw vw : Int) (n : Nd) : Int := if mayN kw vw n then 0 else 2
theorem kid_nat {ks : List Int} (h : ks.all kidOk = true) {i : Nat} (hi : i < ks.length) : ∃ n : Nat, ks[i] = (n : Int) ∧ n < 65536 ∧ ks.getD i 0 = (n : Int) := by
  have := List.all_eq_true.1 h _ (List.getElem_mem hi)
  simp only [kidOk, Bool.and_eq_true, decide_eq_true_eq] at this
  refine ⟨ks[i].toNat, by omega, by omega, ?_⟩
  rw [List.getD_eq_getElem?_getD, List.getElem?_eq_getElem hi]
  show ks[i] = _
  omega
/-- what a node that may be is, in parts -/
theorem may_parts {kw vw : Int} {n : Nd} (h : mayN kw vw n = true) : n.keys.length ≤ 508 ∧ n.kids.length ≤ 509 ∧ n.kids.all kidOk = true ∧ (n.leaf = true → n.vals.length = n.keys.length) ∧ (∀ i, i < n.keys.length → (n.keys.getD i []).length ≤ 64) ∧ (∀ i, i < n.vals.length → (n.vals.getD i []).length ≤ 64) := by
  have hb := body_len h
  simp only [mayN, Bool.and_eq_true] at h
  obtain ⟨hr, h⟩ := h
  obtain ⟨r1, r2, r3, r4⟩ := rightN_iff.1 hr
  simp only [mayB, Bool.and_eq_true] at h
  obtain ⟨_, hw, h⟩ := h
  have e : (bodyU n).length = 4 + (2 * n.kids.length + (entU n.leaf n.keys n.vals n.keys.length).length) := by
    rw [bodyU, List.length_append, List.length_append, headU_len, kidU_len]
  have hk : ∀ i, i < n.keys.length → (n.keys.getD i []).length ≤ 64 := fun i hi => by
    have := wideL_at hw hi
    omega
  cases hl : n.leaf with
  | true =>
    rw [hl] at h
    simp only [if_true, mayL, Bool.and_eq_true, beq_iff_eq, decide_eq_true_eq, capN, hr] at h
    obtain ⟨h1, h2, h3, h4⟩ := h
    have h5 := Int.ediv_le_self (kw + vw) (show (0 : Int) ≤ 508 by omega)
    have h6 : n.kids = [] := List.eq_nil_of_length_eq_zero (by omega)
    refine ⟨by omega, by omega, by rw [h6]; rfl, fun _ => by omega, hk, fun i hi => ?_⟩
    have := wideL_at h3 hi
    omega
  | false =>
    rw [hl] at h
    simp only [Bool.false_eq_true, if_false, mayI, Bool.and_eq_true, beq_iff_eq, decide_eq_true_eq] at h
    obtain ⟨h1, h2, h3, h4, h5⟩ := h
    exact ⟨by omega, by omega, h1, fun h => by simp at h, hk, fun i hi => by omega⟩
theorem entU_len {leaf : Bool} {ks vs : List (List UInt8)} (hk : ∀ i, i < ks.length → (ks.getD i []).length ≤ 64) (hv : ∀ i, i < vs.length → (vs.getD i []).length ≤ 64) : ∀ i, i ≤ ks.length → (entU leaf ks vs i).length ≤ i * 128
  | 0, _ => by simp [entU]
  | i + 1, h => by
    have ih := entU_len (leaf := leaf) hk hv i (by omega)
    have a := hk i (by omega)
    have b : (if leaf then vs.getD i [] else []).length ≤ 64 := by
      split
      · by_cases hi : i < vs.length
        · exact hv i hi
        · rw [List.getD_eq_getElem?_getD, List.getElem?_eq_none (by omega)]; simp
      · simp
    simp only [entU, List.length_append]
    omega
def KdRel (p : Nat) (h : List UInt8) (ks : List Int) (l : List HProp) (i : Value) (wr : World) : Prop := ∃ k : Nat, k ≤ ks.length ∧ i = .int .i64 k ∧ Ent (packer p (h ++ kidU ks k) 0 :: l) wr
def EnRel (p : Nat) (h : List UInt8) (leaf : Bool) (ks vs : List (List UInt8)) (l : List HProp) (i : Value) (wr : World) : Prop := ∃ k : Nat, k ≤ ks.length ∧ i = .int .i64 k ∧ Ent (packer p (h ++ entU leaf ks vs k) 0 :: l) wr


set_option maxRecDepth 100000 in
set_option maxHeartbeats 4000000 in
theorem putNot_true {kw vw : Int} {keys vals : List (List UInt8)} {kids : List Int} {ka va ia : Option Addr} {kc vc ic : Nat} (bk : keys.length ≤ 100000) (bv : vals.length ≤ 100000) (bi : kids.length ≤ 100000) {l : List HProp} {w : World} (hE : Ent l w) (hk : Knows l (reads (.slice ka keys.length kc) keys.length (keys.map strv))) (hv : Knows l (reads (.slice va vals.length vc) vals.length (vals.map strv))) (hi : Knows l (reads (.slice ia kids.length ic) kids.length (kids.map intv))) (hn : mayN kw vw ⟨true, keys, vals, kids⟩ = false) :
    Calls Try.prog 33 #[.agg #[.int .i64 kw, .int .i64 vw], .agg #[.bool true, .slice ka keys.length kc, .slice va vals.length vc, .slice ia kids.length ic]] w (Ret fun v w' => v = .tuple #[.slice none 0 0, .int .i64 2] ∧ Ent l w') := by
  cases hr : rightN kw vw with
  | false =>
    have Hr := SL.hid hr
    clear hr hn
    have Hm := SL.hid (rfl : true = true)
    go_enter Try.func33, Try.ntmps33
    go_wp2_with (first
      | go_skip
      | ((with_reducible (show Go.wpList _ _ _ (Go.Oper.mk _ (.box _ (.tmp 0)) _ _ _ _ :: _) _ _)); refine wpl_box hE rfl rfl rfl ?_; clear hE; intro b2 w hE; simp only [Act.eval, Act.put, List.setIfInBounds_toArray, List.set_cons_zero, List.set_cons_succ, getD_lit, List.getD_cons_succ, List.getD_cons_zero, Value.cells] at hE)
      | ((with_reducible (show Go.wpList _ _ _ (Go.Oper.mk _ (.box _ (.tmp 1)) _ _ _ _ :: _) _ _)); refine wpl_box hE rfl rfl rfl ?_; clear hE; intro b3 w hE; simp only [Act.eval, Act.put, List.setIfInBounds_toArray, List.set_cons_zero, List.set_cons_succ, getD_lit, List.getD_cons_succ, List.getD_cons_zero, Value.cells] at hE)
      | ((with_reducible (show Go.wpList _ _ _ (Go.Oper.mk _ (.load 68 (.tmp 2)) _ _ _ _ :: _) _ _)); refine wpl_loadW hE 1 rfl rfl rfl rfl Try.isAgg68 Try.sizeOf68 (xs := [.int .i64 kw, .int .i64 vw]) rfl ?_)
      | ((with_reducible (show Go.wpList _ _ _ (Go.Oper.mk _ (.load 70 (.tmp 3)) _ _ _ _ :: _) _ _)); refine wpl_loadW hE 0 rfl rfl rfl rfl Try.isAgg70 Try.sizeOf70 (xs := [.bool true, .slice ka keys.length kc, .slice va vals.length vc, .slice ia kids.length ic]) rfl ?_)
      | (go_at_call 27; have H := May_shape (kw := kw) (vw := vw) hE; rw [Hr.out] at H; refine H.mono ?_; clear H hE; rintro e w2 ⟨v, rfl, rfl, hE⟩)
      | (go_at_call 70; have H := mayB_any (kw := kw) (vw := vw) (leaf := true) bk bv bi hE (hk.suf (by repeat (first | exact List.suffix_refl _ | refine List.IsSuffix.trans ?_ (List.suffix_cons _ _)))) (hv.suf (by repeat (first | exact List.suffix_refl _ | refine List.IsSuffix.trans ?_ (List.suffix_cons _ _)))) (hi.suf (by repeat (first | exact List.suffix_refl _ | refine List.IsSuffix.trans ?_ (List.suffix_cons _ _)))); rw [Hm.out] at H; refine H.mono ?_; clear H hE; rintro e w2 ⟨v, rfl, rfl, hE⟩)
      | ((with_reducible (show Go.wpList _ _ _ (Go.Oper.mk _ (.load _ _) _ _ _ _ :: _) _ _)); first | (refine wpl_load1 hE 0 rfl rfl rfl rfl (by simp [go_sem]) rfl ?_) | (refine wpl_load1 hE 1 rfl rfl rfl rfl (by simp [go_sem]) rfl ?_) | (refine wpl_load1 hE 2 rfl rfl rfl rfl (by simp [go_sem]) rfl ?_) | (refine wpl_load1 hE 3 rfl rfl rfl rfl (by simp [go_sem]) rfl ?_) | (refine wpl_load1 hE 4 rfl rfl rfl rfl (by simp [go_sem]) rfl ?_) | (refine wpl_load1 hE 5 rfl rfl rfl rfl (by simp [go_sem]) rfl ?_)))
    go_ret2
    exact ⟨_, rfl, rfl, hE.tail.tail⟩
  | true =>
    have Hm := SL.hid (show mayB kw vw ⟨true, keys, vals, kids⟩ = false by rw [mayN, hr, Bool.true_and] at hn; exact hn)
    have Hr := SL.hid hr
    clear hr hn
    go_enter Try.func33, Try.ntmps33
    go_wp2_with (first
      | go_skip
      | ((with_reducible (show Go.wpList _ _ _ (Go.Oper.mk _ (.box _ (.tmp 0)) _ _ _ _ :: _) _ _)); refine wpl_box hE rfl rfl rfl ?_; clear hE; intro b2 w hE; simp only [Act.eval, Act.put, List.setIfInBounds_toArray, List.set_cons_zero, List.set_cons_succ, getD_lit, List.getD_cons_succ, List.getD_cons_zero, Value.cells] at hE)
      | ((with_reducible (show Go.wpList _ _ _ (Go.Oper.mk _ (.box _ (.tmp 1)) _ _ _ _ :: _) _ _)); refine wpl_box hE rfl rfl rfl ?_; clear hE; intro b3 w hE; simp only [Act.eval, Act.put, List.setIfInBounds_toArray, List.set_cons_zero, List.set_cons_succ, getD_lit, List.getD_cons_succ, List.getD_cons_zero, Value.cells] at hE)
      | ((with_reducible (show Go.wpList _ _ _ (Go.Oper.mk _ (.load 68 (.tmp 2)) _ _ _ _ :: _) _ _)); refine wpl_loadW hE 1 rfl rfl rfl rfl Try.isAgg68 Try.sizeOf68 (xs := [.int .i64 kw, .int .i64 vw]) rfl ?_)
      | ((with_reducible (show Go.wpList _ _ _ (Go.Oper.mk _ (.load 70 (.tmp 3)) _ _ _ _ :: _) _ _)); refine wpl_loadW hE 0 rfl rfl rfl rfl Try.isAgg70 Try.sizeOf70 (xs := [.bool true, .slice ka keys.length kc, .slice va vals.length vc, .slice ia kids.length ic]) rfl ?_)
      | (go_at_call 27; have H := May_shape (kw := kw) (vw := vw) hE; rw [Hr.out] at H; refine H.mono ?_; clear H hE; rintro e w2 ⟨v, rfl, rfl, hE⟩)
      | (go_at_call 70; have H := mayB_any (kw := kw) (vw := vw) (leaf := true) bk bv bi hE (hk.suf (by repeat (first | exact List.suffix_refl _ | refine List.IsSuffix.trans ?_ (List.suffix_cons _ _)))) (hv.suf (by repeat (first | exact List.suffix_refl _ | refine List.IsSuffix.trans ?_ (List.suffix_cons _ _)))) (hi.suf (by repeat (first | exact List.suffix_refl _ | refine List.IsSuffix.trans ?_ (List.suffix_cons _ _)))); rw [Hm.out] at H; refine H.mono ?_; clear H hE; rintro e w2 ⟨v, rfl, rfl, hE⟩)
      | ((with_reducible (show Go.wpList _ _ _ (Go.Oper.mk _ (.load _ _) _ _ _ _ :: _) _ _)); first | (refine wpl_load1 hE 0 rfl rfl rfl rfl (by simp [go_sem]) rfl ?_) | (refine wpl_load1 hE 1 rfl rfl rfl rfl (by simp [go_sem]) rfl ?_) | (refine wpl_load1 hE 2 rfl rfl rfl rfl (by simp [go_sem]) rfl ?_) | (refine wpl_load1 hE 3 rfl rfl rfl rfl (by simp [go_sem]) rfl ?_) | (refine wpl_load1 hE 4 rfl rfl rfl rfl (by simp [go_sem]) rfl ?_) | (refine wpl_load1 hE 5 rfl rfl rfl rfl (by simp [go_sem]) rfl ?_)))
    go_ret2
    exact ⟨_, rfl, rfl, hE.tail.tail⟩

set_option maxRecDepth 100000 in
set_option maxHeartbeats 8000000 in
theorem putYes_true {kw vw : Int} {keys vals : List (List UInt8)} {kids : List Int} {ka va ia : Option Addr} {kc vc ic : Nat} (bk : keys.length ≤ 100000) (bv : vals.length ≤ 100000) (bi : kids.length ≤ 100000) {l : List HProp} {w : World} (hE : Ent l w) (hk : Knows l (reads (.slice ka keys.length kc) keys.length (keys.map strv))) (hv : Knows l (reads (.slice va vals.length vc) vals.length (vals.map strv))) (hi : Knows l (reads (.slice ia kids.length ic) kids.length (kids.map intv))) (hn : mayN kw vw ⟨true, keys, vals, kids⟩ = true) :
    Calls Try.prog 33 #[.agg #[.int .i64 kw, .int .i64 vw], .agg #[.bool true, .slice ka keys.length kc, .slice va vals.length vc, .slice ia kids.length ic]] w (Ret fun v w' => ∃ ao c, v = .tuple #[.slice ao (pageU ⟨true, keys, vals, kids⟩).length c, .int .i64 0] ∧ Ent (rowB ao c (pageU ⟨true, keys, vals, kids⟩) :: l) w') := by
  have Hlen := SL.hid (body_len hn)
  obtain ⟨q1, q2, q3, q4, q5, q6⟩ := may_parts hn
  simp only at q1 q2 q3 q4 q5 q6
  have Hel := SL.hid (fun i => entU_len (leaf := true) (ks := keys) (vs := vals) q5 q6 i)
  have Hkid := SL.hid (fun (i : Nat) (h : i < kids.length) => kid_nat q3 h)
  have Hq4 := SL.hid q4
  have Hq5 := SL.hid q5
  have Hq6 := SL.hid q6
  clear q3 q4 q5 q6
  obtain ⟨hr, hm⟩ := Bool.and_eq_true_iff.1 hn
  have Hr := SL.hid hr
  have Hm := SL.hid hm
  clear hr hm hn
  have Hhead := SL.hid (show headU ⟨true, keys, vals, kids⟩ = ([] ++ [UInt8.ofNat 1]) ++ [UInt8.ofNat 0] ++ be 2 keys.length from rfl)
  have Hbody := SL.hid (show bodyU ⟨true, keys, vals, kids⟩ = headU ⟨true, keys, vals, kids⟩ ++ kidU kids kids.length ++ entU true keys vals keys.length by rw [bodyU, List.append_assoc])
  have Hpage := SL.hid (show pageU ⟨true, keys, vals, kids⟩ = bodyU ⟨true, keys, vals, kids⟩ ++ List.replicate (512 - (bodyU ⟨true, keys, vals, kids⟩).length) 0 from rfl)
  have hwk : IntKind.u64.wrap (keys.length : Int) = (keys.length : Int) := wrapU_id (by omega)
  generalize pageU ⟨true, keys, vals, kids⟩ = page at *
  generalize bodyU ⟨true, keys, vals, kids⟩ = body at *
  generalize hhd : headU ⟨true, keys, vals, kids⟩ = hd at *
  clear hhd
  have Hhl := SL.hid (show hd.length = 4 by rw [Hhead.out]; simp [be_length])
  go_enter Try.func33, Try.ntmps33
  go_wp2_with (first
    | go_skip
    | ((with_reducible (show Go.wpList _ _ _ (Go.Oper.mk _ (.box _ (.tmp 0)) _ _ _ _ :: _) _ _)); refine wpl_box hE rfl rfl rfl ?_; clear hE; intro b2 w hE; simp only [Act.eval, Act.put, List.setIfInBounds_toArray, List.set_cons_zero, List.set_cons_succ, getD_lit, List.getD_cons_succ, List.getD_cons_zero, Value.cells] at hE)
    | ((with_reducible (show Go.wpList _ _ _ (Go.Oper.mk _ (.box _ (.tmp 1)) _ _ _ _ :: _) _ _)); refine wpl_box hE rfl rfl rfl ?_; clear hE; intro b3 w hE; simp only [Act.eval, Act.put, List.setIfInBounds_toArray, List.set_cons_zero, List.set_cons_succ, getD_lit, List.getD_cons_succ, List.getD_cons_zero, Value.cells] at hE)
    | ((with_reducible (show Go.wpList _ _ _ (Go.Oper.mk _ (.load 68 (.tmp 2)) _ _ _ _ :: _) _ _)); refine wpl_loadW hE 1 rfl rfl rfl rfl Try.isAgg68 Try.sizeOf68 (xs := [.int .i64 kw, .int .i64 vw]) rfl ?_)
    | ((with_reducible (show Go.wpList _ _ _ (Go.Oper.mk _ (.load 70 (.tmp 3)) _ _ _ _ :: _) _ _)); refine wpl_loadW hE 0 rfl rfl rfl rfl Try.isAgg70 Try.sizeOf70 (xs := [.bool true, .slice ka keys.length kc, .slice va vals.length vc, .slice ia kids.length ic]) rfl ?_)
    | (go_at_call 27; have H := May_shape (kw := kw) (vw := vw) hE; rw [Hr.out] at H; refine H.mono ?_; clear H hE; rintro e w2 ⟨v, rfl, rfl, hE⟩)
    | (go_at_call 70; have H := mayB_any (kw := kw) (vw := vw) (leaf := true) bk bv bi hE (hk.suf (by repeat (first | exact List.suffix_refl _ | refine List.IsSuffix.trans ?_ (List.suffix_cons _ _)))) (hv.suf (by repeat (first | exact List.suffix_refl _ | refine List.IsSuffix.trans ?_ (List.suffix_cons _ _)))) (hi.suf (by repeat (first | exact List.suffix_refl _ | refine List.IsSuffix.trans ?_ (List.suffix_cons _ _)))); rw [Hm.out] at H; refine H.mono ?_; clear H hE; rintro e w2 ⟨v, rfl, rfl, hE⟩)
    | ((with_reducible (show Go.wpList _ _ _ (Go.Oper.mk _ (.load _ _) _ _ _ _ :: _) _ _)); first | (refine wpl_load1 hE 0 rfl rfl rfl rfl (by simp [go_sem]) rfl ?_) | (refine wpl_load1 hE 1 rfl rfl rfl rfl (by simp [go_sem]) rfl ?_) | (refine wpl_load1 hE 2 rfl rfl rfl rfl (by simp [go_sem]) rfl ?_) | (refine wpl_load1 hE 3 rfl rfl rfl rfl (by simp [go_sem]) rfl ?_) | (refine wpl_load1 hE 4 rfl rfl rfl rfl (by simp [go_sem]) rfl ?_) | (refine wpl_load1 hE 5 rfl rfl rfl rfl (by simp [go_sem]) rfl ?_)))
  refine wp_region_held_drew (S := (fun w' => (w'.cell? ⟨b3, 1, none⟩ = some (.slice ka keys.length kc)))) (by kernel_rfl) (cellV hE.drew (by repeat (first | exact List.Mem.head _ | refine List.Mem.tail _ ?_)) rfl) (fun hS => ?_)
  refine takeW 1 ⟨some 26, .move (.tmp 6), 91, "node.go:87", #[], none⟩ ?_ (.inl ⟨by rfl, ?_⟩) hS ?_
  rotate_left
  · (intro w hSw; (try dsimp only at hSw); go_simp; (try with_reducible rfl))
  try simp only [Act.put, sb, s0, sz]
  refine takeW 4 ⟨some 29, .fieldAddr 70 (.tmp 3) 1, 0, "node.go:87", #[], none⟩ ?_ (.inl ⟨by rfl, ?_⟩) hS ?_
  rotate_left
  · (intro w hSw; (try dsimp only at hSw); go_simp; (try with_reducible rfl))
  try simp only [Act.put, sb, s0, sz]
  refine takeW 5 ⟨some 30, .load 63 (.tmp 29), 63, "node.go:87", #[⟨4, .data⟩], none⟩ ?_ (.inl ⟨by rfl, ?_⟩) hS ?_
  rotate_left
  · (intro w hSw; (try dsimp only at hSw); go_simp; (try with_reducible rfl))
  try simp only [Act.put, sb, s0, sz]
  refine takeW 6 ⟨some 31, .call { callee := .builtin .len, args := #[.tmp 30], argTypes := #[63] }, 3, "node.go:87", #[⟨5, .data⟩], none⟩ ?_ (.inl ⟨by rfl, ?_⟩) hS ?_
  rotate_left
  · (intro w hSw; (try dsimp only at hSw); go_simp; (try with_reducible rfl))
  try simp only [Act.put, sb, s0, sz]
  refine takeW 7 ⟨some 32, .convert 3 91 (.tmp 31), 91, "node.go:87", #[⟨6, .data⟩], none⟩ ?_ (.inl ⟨by rfl, ?_⟩) hS ?_
  rotate_left
  · (intro w hSw; (try dsimp only at hSw); go_simp; (try with_reducible rfl))
  try simp only [Act.put, sb, s0, sz]
  refine wpAnyH_ready (rs := [0]) (by kernel_rfl) (by simp) ?_
  refine (AllReadyH.cons (o := { dst := some 25, op := Go.Op.call { callee := Go.Callee.value (Go.Operand.func 41), args := #[], argTypes := #[] }, type := 88, pos := "node.go:87", after := #[], guard := none }) rfl (fun K hK => ?_) AllReadyH.nil)
  (go_simp; refine (New_any hE.drew).mono ?_; rintro e w3 ⟨v, rfl, p, rfl, hE3⟩)
  refine hK.out _ _ (cellV hE3 (by repeat (first | exact List.Mem.head _ | refine List.Mem.tail _ ?_)) rfl) (fun hS => ?_)
  clear hK K
  try simp only [Act.put, sb, s0, sz]
  refine wpAnyH_ready (rs := [2]) (by kernel_rfl) (by simp) ?_
  refine (AllReadyH.cons (o := { dst := some 27, op := Go.Op.call { callee := Go.Callee.value (Go.Operand.func 42), args := #[Go.Operand.tmp 25, Go.Operand.const (Go.Value.int Go.IntKind.i64 1), Go.Operand.tmp 26], argTypes := #[88, 3, 91] }, type := 88, pos := "node.go:87", after := #[{ on := 0, ground := Go.Ground.data }, { on := 1, ground := Go.Ground.data }, { on := 0, ground := Go.Ground.chain }], guard := none }) rfl (fun K hK => ?_) AllReadyH.nil)
  (go_simp; refine (pPut1 (n := 1) (by omega) hE3 (by simp)).mono ?_; rintro e w4 ⟨v, rfl, rfl, hE4⟩)
  refine hK.out _ _ (cellV hE4 (by repeat (first | exact List.Mem.head _ | refine List.Mem.tail _ ?_)) rfl) (fun hS => ?_)
  clear hK K
  try simp only [Act.put, sb, s0, sz]
  refine wpAnyH_ready (rs := [3]) (by kernel_rfl) (by simp) ?_
  refine (AllReadyH.cons (o := { dst := some 28, op := Go.Op.call { callee := Go.Callee.value (Go.Operand.func 42), args := #[Go.Operand.tmp 27, Go.Operand.const (Go.Value.int Go.IntKind.i64 1), Go.Operand.const (Go.Value.int Go.IntKind.u64 0)], argTypes := #[88, 3, 91] }, type := 88, pos := "node.go:87", after := #[{ on := 2, ground := Go.Ground.data }, { on := 2, ground := Go.Ground.chain }], guard := none }) rfl (fun K hK => ?_) AllReadyH.nil)
  (go_simp; refine (pPut1 (n := 0) (by omega) hE4 (by simp)).mono ?_; rintro e w5 ⟨v, rfl, rfl, hE5⟩)
  refine hK.out _ _ (cellV hE5 (by repeat (first | exact List.Mem.head _ | refine List.Mem.tail _ ?_)) rfl) (fun hS => ?_)
  clear hK K
  try simp only [Act.put, sb, s0, sz]
  refine wpAnyH_ready (rs := [8]) (by kernel_rfl) (by simp) ?_
  refine (AllReadyH.cons (o := { dst := some 33, op := Go.Op.call { callee := Go.Callee.value (Go.Operand.func 42), args := #[Go.Operand.tmp 28, Go.Operand.const (Go.Value.int Go.IntKind.i64 2), Go.Operand.tmp 32], argTypes := #[88, 3, 91] }, type := 88, pos := "node.go:87", after := #[{ on := 3, ground := Go.Ground.data }, { on := 7, ground := Go.Ground.data }, { on := 3, ground := Go.Ground.chain }], guard := none }) rfl (fun K hK => ?_) AllReadyH.nil)
  (go_simp; refine (pPut2 (n := keys.length) (by omega) hE5 (by simp)).mono ?_; rintro e w6 ⟨v, rfl, rfl, hE6⟩)
  refine hK.out _ _ (cellV hE6 (by repeat (first | exact List.Mem.head _ | refine List.Mem.tail _ ?_)) rfl) (fun hS => ?_)
  clear hK K
  try simp only [Act.put, sb, s0, sz]
  refine takeW 9 ⟨some 7, .assign (.tmp 33), 88, "node.go:87", #[⟨8, .data⟩, ⟨8, .chain⟩, ⟨0, .phase⟩, ⟨1, .phase⟩, ⟨2, .phase⟩, ⟨3, .phase⟩, ⟨4, .phase⟩, ⟨5, .phase⟩, ⟨6, .phase⟩, ⟨7, .phase⟩, ⟨8, .phase⟩], none⟩ ?_ (.inl ⟨by rfl, ?_⟩) hS ?_
  rotate_left
  · (intro w hSw; (try dsimp only at hSw); go_simp; (try with_reducible rfl))
  try simp only [Act.put, sb, s0, sz]
  refine wpAnyH_done (by kernel_rfl) ?_ _
  rw [← Hhead.out] at hE6
  go_wp2_with (first
    | go_skip
    | ((with_reducible (show Go.wpList _ _ _ (Go.Oper.mk _ (.load _ _) _ _ _ _ :: _) _ _)); refine wpl_load1 hE6 1 rfl rfl rfl rfl (by simp [go_sem]) rfl ?_))
  go_loopw [9, 37] (fun _ i wr => KdRel p hd kids (ndB b3 70 true keys vals kids ka va ia kc vc ic :: shB b2 68 kw vw :: l) i wr) (fun _ i _ => kids.length - (intOf i).toNat)
  case atStart => exact ⟨0, Nat.zero_le _, rfl, by simpa [kidU] using hE6⟩
  case round =>
    clear hE hE3 hE4 hE5 hE6
    obtain ⟨k, hkl, rfl, hE⟩ := hrel
    by_cases hlt : k < kids.length
    · obtain ⟨bb, bo, rfl, k0⟩ := reads_map (hi _ (hE.suf (by repeat (first | exact List.suffix_refl _ | refine List.IsSuffix.trans ?_ (List.suffix_cons _ _))))) hlt
      obtain ⟨m, hm1, hm2, hm3⟩ := Hkid.out k hlt
      rw [hm1, intv] at k0
      have Hs := SL.hid (show kidU kids (k + 1) = kidU kids k ++ be 2 m by rw [kidU, hm3]; rfl)
      have Hkl := SL.hid (kidU_len kids k)
      clear hm1 hm3
      generalize kidU kids k = ku at *
      have hwm : IntKind.u64.wrap (m : Int) = (m : Int) := wrapU_id (by omega)
      go_wp2_with (first
        | go_skip
        | (go_at_call 42; refine (pPut2 (n := m) hm2 hE (by have := Hhl.out; have := Hkl.out; rw [List.length_append]; omega)).mono ?_; clear hE; rintro e w7 ⟨v, rfl, rfl, hE⟩))
      go_roundw
      case rel => exact ⟨k + 1, hlt, by first | rfl | simp, by rw [Hs.out, ← List.append_assoc]; exact hE⟩
      case measure => simp [intOf] <;> omega
    · obtain rfl : k = kids.length := by omega
      have Hkl := SL.hid (kidU_len kids kids.length)
      generalize kidU kids kids.length = ku at *
      go_wp2_with (first
        | go_skip
        | ((with_reducible (show Go.wpList _ _ _ (Go.Oper.mk _ (.load _ _) _ _ _ _ :: _) _ _)); refine wpl_load1 hE 1 rfl rfl rfl rfl (by simp [go_sem]) rfl ?_))
      go_loopw [10, 11, 49] (fun _ _ i wr => EnRel p (hd ++ ku) true keys vals (ndB b3 70 true keys vals kids ka va ia kc vc ic :: shB b2 68 kw vw :: l) i wr) (fun _ _ i _ => keys.length - (intOf i).toNat)
      case atStart => exact ⟨0, Nat.zero_le _, rfl, by simpa [entU] using hE⟩
      case round =>
        clear hE hlt hkl
        obtain ⟨j, hjl, rfl, hE⟩ := hrel
        by_cases hlt : j < keys.length
        · obtain ⟨bb, bo, rfl, k0⟩ := reads_map (hk _ (hE.suf (by repeat (first | exact List.suffix_refl _ | refine List.IsSuffix.trans ?_ (List.suffix_cons _ _))))) hlt
          have Hg := SL.hid (show keys.getD j [] = keys[j] by rw [List.getD_eq_getElem?_getD, List.getElem?_eq_getElem hlt]; rfl)
          have h5 := Hq5.out j hlt
          rw [Hg.out] at h5
          have hel := Hel.out j hjl
          have hjv : j < vals.length := by rw [Hq4.out (by first | exact rfl | trivial)]; exact hlt
          obtain ⟨vb, vo, rfl, _⟩ := reads_map (hv _ (hE.suf (by repeat (first | exact List.suffix_refl _ | refine List.IsSuffix.trans ?_ (List.suffix_cons _ _))))) hjv
          have Lv := SL.hid (fun W (hW : Ent l W) => show W.cell? ⟨vb, vo + j, none⟩ = some (strv vals[j]) from by
            obtain ⟨b', o', e, h⟩ := reads_map (hv _ hW) hjv
            cases e
            exact h)
          have Hgv := SL.hid (show vals.getD j [] = vals[j] by rw [List.getD_eq_getElem?_getD, List.getElem?_eq_getElem hjv]; rfl)
          have h6 := Hq6.out j hjv
          rw [Hgv.out] at h6
          have Hs := SL.hid (show entU true keys vals (j + 1) = entU true keys vals j ++ (keys[j] ++ vals[j]) by rw [entU, Hg.out, Hgv.out]; rfl)
          clear Hgv
          generalize vals[j] = y at *
          simp only [strv] at Lv
          clear Hg
          generalize keys[j] = x at *
          rw [strv] at k0
          generalize entU true keys vals j = eu at *
          have Hb1 := SL.hid (show ((hd ++ ku) ++ eu).length ≤ 100000 by have := Hhl.out; have := Hkl.out; rw [List.length_append, List.length_append]; omega)
          clear hel
          go_wp2_with (first
            | go_skip
            | (go_at_call 48; have H := Text_any p x hE (by have := Hb1.out; omega); refine H.mono ?_; clear H hE; rintro e w7 ⟨v, rfl, rfl, hE7⟩; have v1 := Lv.out _ (hE7.suf (by repeat (first | exact List.suffix_refl _ | refine List.IsSuffix.trans ?_ (List.suffix_cons _ _)))))
            | (go_at_call 48; have H := Text_any p y hE7 (by have := Hb1.out; rw [List.length_append]; omega); refine H.mono ?_; clear H hE7; rintro e w8 ⟨v, rfl, rfl, hE8⟩)
            | ((with_reducible (show Go.wpList _ _ _ (Go.Oper.mk _ (.load 4 _) _ _ _ _ :: _) _ _)); refine wpl_load1 hE7 1 rfl rfl rfl rfl (by simp [go_sem]) rfl ?_)
            | ((with_reducible (show Go.wpList _ _ _ (Go.Oper.mk _ (.load 63 _) _ _ _ _ :: _) _ _)); refine wpl_load1 hE7 1 rfl rfl rfl rfl (by simp [go_sem]) rfl ?_))
          go_roundw
          case rel => exact ⟨j + 1, hlt, by first | rfl | simp, by rw [Hs.out, ← List.append_assoc, ← List.append_assoc]; exact hE8⟩
          case measure => simp [intOf] <;> omega
        · obtain rfl : j = keys.length := by omega
          rw [← Hbody.out] at hE
          have hbl := Hlen.out
          obtain ⟨z, hz⟩ : ∃ z : Nat, z = 512 - body.length := ⟨_, rfl⟩
          have Hz := SL.hid hz
          have hz1 : (512 : Int) - (body.length : Int) = (z : Int) := by omega
          have hz2 : max (0 : Int) (z : Int) = (z : Int) := by omega
          have hz3 : z ≤ 512 := by omega
          clear hz
          go_wp2_with (first
            | go_skip
            | (go_at_call 44; refine (Bytes_ok hE (by omega)).mono ?_; clear hE; rintro e w7 ⟨v, rfl, ao, c, rfl, hE7⟩)
            | (go_at_call 71; refine (Repeat_zeros z (by omega) hE7).mono ?_; clear hE7; rintro e w8 ⟨v, rfl, rfl, hE8⟩)
            | ((with_reducible (show Go.wpList _ _ _ (Go.Oper.mk _ (.call { callee := .builtin .append, args := _, argTypes := _ }) _ _ _ _ :: _) _ _)); refine wpl_appendS hE8 0 rfl rfl rfl rfl rfl (by rw [List.length_replicate]; omega) ?_; clear hE8; intro ao2 c2 w9 hE9))
          have hpl : body.length + z = page.length := by rw [Hpage.out, List.length_append, List.length_replicate, Hz.out]
          rw [Hz.out, ← Hpage.out] at hE9
          go_ret2
          exact ⟨_, rfl, ao2, c2, by rw [← hpl]; first | done | rfl, ((hE9.erase 1).erase 1).erase 1⟩

set_option maxRecDepth 100000 in
set_option maxHeartbeats 4000000 in
theorem putNot_false {kw vw : Int} {keys vals : List (List UInt8)} {kids : List Int} {ka va ia : Option Addr} {kc vc ic : Nat} (bk : keys.length ≤ 100000) (bv : vals.length ≤ 100000) (bi : kids.length ≤ 100000) {l : List HProp} {w : World} (hE : Ent l w) (hk : Knows l (reads (.slice ka keys.length kc) keys.length (keys.map strv))) (hv : Knows l (reads (.slice va vals.length vc) vals.length (vals.map strv))) (hi : Knows l (reads (.slice ia kids.length ic) kids.length (kids.map intv))) (hn : mayN kw vw ⟨false, keys, vals, kids⟩ = false) :
    Calls Try.prog 33 #[.agg #[.int .i64 kw, .int .i64 vw], .agg #[.bool false, .slice ka keys.length kc, .slice va vals.length vc, .slice ia kids.length ic]] w (Ret fun v w' => v = .tuple #[.slice none 0 0, .int .i64 2] ∧ Ent l w') := by
  cases hr : rightN kw vw with
  | false =>
    have Hr := SL.hid hr
    clear hr hn
    have Hm := SL.hid (rfl : true = true)
    go_enter Try.func33, Try.ntmps33
    go_wp2_with (first
      | go_skip
      | ((with_reducible (show Go.wpList _ _ _ (Go.Oper.mk _ (.box _ (.tmp 0)) _ _ _ _ :: _) _ _)); refine wpl_box hE rfl rfl rfl ?_; clear hE; intro b2 w hE; simp only [Act.eval, Act.put, List.setIfInBounds_toArray, List.set_cons_zero, List.set_cons_succ, getD_lit, List.getD_cons_succ, List.getD_cons_zero, Value.cells] at hE)
      | ((with_reducible (show Go.wpList _ _ _ (Go.Oper.mk _ (.box _ (.tmp 1)) _ _ _ _ :: _) _ _)); refine wpl_box hE rfl rfl rfl ?_; clear hE; intro b3 w hE; simp only [Act.eval, Act.put, List.setIfInBounds_toArray, List.set_cons_zero, List.set_cons_succ, getD_lit, List.getD_cons_succ, List.getD_cons_zero, Value.cells] at hE)
      | ((with_reducible (show Go.wpList _ _ _ (Go.Oper.mk _ (.load 68 (.tmp 2)) _ _ _ _ :: _) _ _)); refine wpl_loadW hE 1 rfl rfl rfl rfl Try.isAgg68 Try.sizeOf68 (xs := [.int .i64 kw, .int .i64 vw]) rfl ?_)
      | ((with_reducible (show Go.wpList _ _ _ (Go.Oper.mk _ (.load 70 (.tmp 3)) _ _ _ _ :: _) _ _)); refine wpl_loadW hE 0 rfl rfl rfl rfl Try.isAgg70 Try.sizeOf70 (xs := [.bool false, .slice ka keys.length kc, .slice va vals.length vc, .slice ia kids.length ic]) rfl ?_)
      | (go_at_call 27; have H := May_shape (kw := kw) (vw := vw) hE; rw [Hr.out] at H; refine H.mono ?_; clear H hE; rintro e w2 ⟨v, rfl, rfl, hE⟩)
      | (go_at_call 70; have H := mayB_any (kw := kw) (vw := vw) (leaf := false) bk bv bi hE (hk.suf (by repeat (first | exact List.suffix_refl _ | refine List.IsSuffix.trans ?_ (List.suffix_cons _ _)))) (hv.suf (by repeat (first | exact List.suffix_refl _ | refine List.IsSuffix.trans ?_ (List.suffix_cons _ _)))) (hi.suf (by repeat (first | exact List.suffix_refl _ | refine List.IsSuffix.trans ?_ (List.suffix_cons _ _)))); rw [Hm.out] at H; refine H.mono ?_; clear H hE; rintro e w2 ⟨v, rfl, rfl, hE⟩)
      | ((with_reducible (show Go.wpList _ _ _ (Go.Oper.mk _ (.load _ _) _ _ _ _ :: _) _ _)); first | (refine wpl_load1 hE 0 rfl rfl rfl rfl (by simp [go_sem]) rfl ?_) | (refine wpl_load1 hE 1 rfl rfl rfl rfl (by simp [go_sem]) rfl ?_) | (refine wpl_load1 hE 2 rfl rfl rfl rfl (by simp [go_sem]) rfl ?_) | (refine wpl_load1 hE 3 rfl rfl rfl rfl (by simp [go_sem]) rfl ?_) | (refine wpl_load1 hE 4 rfl rfl rfl rfl (by simp [go_sem]) rfl ?_) | (refine wpl_load1 hE 5 rfl rfl rfl rfl (by simp [go_sem]) rfl ?_)))
    go_ret2
    exact ⟨_, rfl, rfl, hE.tail.tail⟩
  | true =>
    have Hm := SL.hid (show mayB kw vw ⟨false, keys, vals, kids⟩ = false by rw [mayN, hr, Bool.true_and] at hn; exact hn)
    have Hr := SL.hid hr
    clear hr hn
    go_enter Try.func33, Try.ntmps33
    go_wp2_with (first
      | go_skip
      | ((with_reducible (show Go.wpList _ _ _ (Go.Oper.mk _ (.box _ (.tmp 0)) _ _ _ _ :: _) _ _)); refine wpl_box hE rfl rfl rfl ?_; clear hE; intro b2 w hE; simp only [Act.eval, Act.put, List.setIfInBounds_toArray, List.set_cons_zero, List.set_cons_succ, getD_lit, List.getD_cons_succ, List.getD_cons_zero, Value.cells] at hE)
      | ((with_reducible (show Go.wpList _ _ _ (Go.Oper.mk _ (.box _ (.tmp 1)) _ _ _ _ :: _) _ _)); refine wpl_box hE rfl rfl rfl ?_; clear hE; intro b3 w hE; simp only [Act.eval, Act.put, List.setIfInBounds_toArray, List.set_cons_zero, List.set_cons_succ, getD_lit, List.getD_cons_succ, List.getD_cons_zero, Value.cells] at hE)
      | ((with_reducible (show Go.wpList _ _ _ (Go.Oper.mk _ (.load 68 (.tmp 2)) _ _ _ _ :: _) _ _)); refine wpl_loadW hE 1 rfl rfl rfl rfl Try.isAgg68 Try.sizeOf68 (xs := [.int .i64 kw, .int .i64 vw]) rfl ?_)
      | ((with_reducible (show Go.wpList _ _ _ (Go.Oper.mk _ (.load 70 (.tmp 3)) _ _ _ _ :: _) _ _)); refine wpl_loadW hE 0 rfl rfl rfl rfl Try.isAgg70 Try.sizeOf70 (xs := [.bool false, .slice ka keys.length kc, .slice va vals.length vc, .slice ia kids.length ic]) rfl ?_)
      | (go_at_call 27; have H := May_shape (kw := kw) (vw := vw) hE; rw [Hr.out] at H; refine H.mono ?_; clear H hE; rintro e w2 ⟨v, rfl, rfl, hE⟩)
      | (go_at_call 70; have H := mayB_any (kw := kw) (vw := vw) (leaf := false) bk bv bi hE (hk.suf (by repeat (first | exact List.suffix_refl _ | refine List.IsSuffix.trans ?_ (List.suffix_cons _ _)))) (hv.suf (by repeat (first | exact List.suffix_refl _ | refine List.IsSuffix.trans ?_ (List.suffix_cons _ _)))) (hi.suf (by repeat (first | exact List.suffix_refl _ | refine List.IsSuffix.trans ?_ (List.suffix_cons _ _)))); rw [Hm.out] at H; refine H.mono ?_; clear H hE; rintro e w2 ⟨v, rfl, rfl, hE⟩)
      | ((with_reducible (show Go.wpList _ _ _ (Go.Oper.mk _ (.load _ _) _ _ _ _ :: _) _ _)); first | (refine wpl_load1 hE 0 rfl rfl rfl rfl (by simp [go_sem]) rfl ?_) | (refine wpl_load1 hE 1 rfl rfl rfl rfl (by simp [go_sem]) rfl ?_) | (refine wpl_load1 hE 2 rfl rfl rfl rfl (by simp [go_sem]) rfl ?_) | (refine wpl_load1 hE 3 rfl rfl rfl rfl (by simp [go_sem]) rfl ?_) | (refine wpl_load1 hE 4 rfl rfl rfl rfl (by simp [go_sem]) rfl ?_) | (refine wpl_load1 hE 5 rfl rfl rfl rfl (by simp [go_sem]) rfl ?_)))
    go_ret2
    exact ⟨_, rfl, rfl, hE.tail.tail⟩

set_option maxRecDepth 100000 in
set_option maxHeartbeats 8000000 in
theorem putYes_false {kw vw : Int} {keys vals : List (List UInt8)} {kids : List Int} {ka va ia : Option Addr} {kc vc ic : Nat} (bk : keys.length ≤ 100000) (bv : vals.length ≤ 100000) (bi : kids.length ≤ 100000) {l : List HProp} {w : World} (hE : Ent l w) (hk : Knows l (reads (.slice ka keys.length kc) keys.length (keys.map strv))) (hv : Knows l (reads (.slice va vals.length vc) vals.length (vals.map strv))) (hi : Knows l (reads (.slice ia kids.length ic) kids.length (kids.map intv))) (hn : mayN kw vw ⟨false, keys, vals, kids⟩ = true) :
    Calls Try.prog 33 #[.agg #[.int .i64 kw, .int .i64 vw], .agg #[.bool false, .slice ka keys.length kc, .slice va vals.length vc, .slice ia kids.length ic]] w (Ret fun v w' => ∃ ao c, v = .tuple #[.slice ao (pageU ⟨false, keys, vals, kids⟩).length c, .int .i64 0] ∧ Ent (rowB ao c (pageU ⟨false, keys, vals, kids⟩) :: l) w') := by
  have Hlen := SL.hid (body_len hn)
  obtain ⟨q1, q2, q3, q4, q5, q6⟩ := may_parts hn
  simp only at q1 q2 q3 q4 q5 q6
  have Hel := SL.hid (fun i => entU_len (leaf := false) (ks := keys) (vs := vals) q5 q6 i)
  have Hkid := SL.hid (fun (i : Nat) (h : i < kids.length) => kid_nat q3 h)
  have Hq4 := SL.hid q4
  have Hq5 := SL.hid q5
  have Hq6 := SL.hid q6
  clear q3 q4 q5 q6
  obtain ⟨hr, hm⟩ := Bool.and_eq_true_iff.1 hn
  have Hr := SL.hid hr
  have Hm := SL.hid hm
  clear hr hm hn
  have Hhead := SL.hid (show headU ⟨false, keys, vals, kids⟩ = ([] ++ [UInt8.ofNat 2]) ++ [UInt8.ofNat 0] ++ be 2 keys.length from rfl)
  have Hbody := SL.hid (show bodyU ⟨false, keys, vals, kids⟩ = headU ⟨false, keys, vals, kids⟩ ++ kidU kids kids.length ++ entU false keys vals keys.length by rw [bodyU, List.append_assoc])
  have Hpage := SL.hid (show pageU ⟨false, keys, vals, kids⟩ = bodyU ⟨false, keys, vals, kids⟩ ++ List.replicate (512 - (bodyU ⟨false, keys, vals, kids⟩).length) 0 from rfl)
  have hwk : IntKind.u64.wrap (keys.length : Int) = (keys.length : Int) := wrapU_id (by omega)
  generalize pageU ⟨false, keys, vals, kids⟩ = page at *
  generalize bodyU ⟨false, keys, vals, kids⟩ = body at *
  generalize hhd : headU ⟨false, keys, vals, kids⟩ = hd at *
  clear hhd
  have Hhl := SL.hid (show hd.length = 4 by rw [Hhead.out]; simp [be_length])
  go_enter Try.func33, Try.ntmps33
  go_wp2_with (first
    | go_skip
    | ((with_reducible (show Go.wpList _ _ _ (Go.Oper.mk _ (.box _ (.tmp 0)) _ _ _ _ :: _) _ _)); refine wpl_box hE rfl rfl rfl ?_; clear hE; intro b2 w hE; simp only [Act.eval, Act.put, List.setIfInBounds_toArray, List.set_cons_zero, List.set_cons_succ, getD_lit, List.getD_cons_succ, List.getD_cons_zero, Value.cells] at hE)
    | ((with_reducible (show Go.wpList _ _ _ (Go.Oper.mk _ (.box _ (.tmp 1)) _ _ _ _ :: _) _ _)); refine wpl_box hE rfl rfl rfl ?_; clear hE; intro b3 w hE; simp only [Act.eval, Act.put, List.setIfInBounds_toArray, List.set_cons_zero, List.set_cons_succ, getD_lit, List.getD_cons_succ, List.getD_cons_zero, Value.cells] at hE)
    | ((with_reducible (show Go.wpList _ _ _ (Go.Oper.mk _ (.load 68 (.tmp 2)) _ _ _ _ :: _) _ _)); refine wpl_loadW hE 1 rfl rfl rfl rfl Try.isAgg68 Try.sizeOf68 (xs := [.int .i64 kw, .int .i64 vw]) rfl ?_)
    | ((with_reducible (show Go.wpList _ _ _ (Go.Oper.mk _ (.load 70 (.tmp 3)) _ _ _ _ :: _) _ _)); refine wpl_loadW hE 0 rfl rfl rfl rfl Try.isAgg70 Try.sizeOf70 (xs := [.bool false, .slice ka keys.length kc, .slice va vals.length vc, .slice ia kids.length ic]) rfl ?_)
    | (go_at_call 27; have H := May_shape (kw := kw) (vw := vw) hE; rw [Hr.out] at H; refine H.mono ?_; clear H hE; rintro e w2 ⟨v, rfl, rfl, hE⟩)
    | (go_at_call 70; have H := mayB_any (kw := kw) (vw := vw) (leaf := false) bk bv bi hE (hk.suf (by repeat (first | exact List.suffix_refl _ | refine List.IsSuffix.trans ?_ (List.suffix_cons _ _)))) (hv.suf (by repeat (first | exact List.suffix_refl _ | refine List.IsSuffix.trans ?_ (List.suffix_cons _ _)))) (hi.suf (by repeat (first | exact List.suffix_refl _ | refine List.IsSuffix.trans ?_ (List.suffix_cons _ _)))); rw [Hm.out] at H; refine H.mono ?_; clear H hE; rintro e w2 ⟨v, rfl, rfl, hE⟩)
    | ((with_reducible (show Go.wpList _ _ _ (Go.Oper.mk _ (.load _ _) _ _ _ _ :: _) _ _)); first | (refine wpl_load1 hE 0 rfl rfl rfl rfl (by simp [go_sem]) rfl ?_) | (refine wpl_load1 hE 1 rfl rfl rfl rfl (by simp [go_sem]) rfl ?_) | (refine wpl_load1 hE 2 rfl rfl rfl rfl (by simp [go_sem]) rfl ?_) | (refine wpl_load1 hE 3 rfl rfl rfl rfl (by simp [go_sem]) rfl ?_) | (refine wpl_load1 hE 4 rfl rfl rfl rfl (by simp [go_sem]) rfl ?_) | (refine wpl_load1 hE 5 rfl rfl rfl rfl (by simp [go_sem]) rfl ?_)))
  refine wp_region_held_drew (S := (fun w' => (w'.cell? ⟨b3, 1, none⟩ = some (.slice ka keys.length kc)))) (by kernel_rfl) (cellV hE.drew (by repeat (first | exact List.Mem.head _ | refine List.Mem.tail _ ?_)) rfl) (fun hS => ?_)
  refine takeW 1 ⟨some 26, .move (.tmp 6), 91, "node.go:87", #[], none⟩ ?_ (.inl ⟨by rfl, ?_⟩) hS ?_
  rotate_left
  · (intro w hSw; (try dsimp only at hSw); go_simp; (try with_reducible rfl))
  try simp only [Act.put, sb, s0, sz]
  refine takeW 4 ⟨some 29, .fieldAddr 70 (.tmp 3) 1, 0, "node.go:87", #[], none⟩ ?_ (.inl ⟨by rfl, ?_⟩) hS ?_
  rotate_left
  · (intro w hSw; (try dsimp only at hSw); go_simp; (try with_reducible rfl))
  try simp only [Act.put, sb, s0, sz]
  refine takeW 5 ⟨some 30, .load 63 (.tmp 29), 63, "node.go:87", #[⟨4, .data⟩], none⟩ ?_ (.inl ⟨by rfl, ?_⟩) hS ?_
  rotate_left
  · (intro w hSw; (try dsimp only at hSw); go_simp; (try with_reducible rfl))
  try simp only [Act.put, sb, s0, sz]
  refine takeW 6 ⟨some 31, .call { callee := .builtin .len, args := #[.tmp 30], argTypes := #[63] }, 3, "node.go:87", #[⟨5, .data⟩], none⟩ ?_ (.inl ⟨by rfl, ?_⟩) hS ?_
  rotate_left
  · (intro w hSw; (try dsimp only at hSw); go_simp; (try with_reducible rfl))
  try simp only [Act.put, sb, s0, sz]
  refine takeW 7 ⟨some 32, .convert 3 91 (.tmp 31), 91, "node.go:87", #[⟨6, .data⟩], none⟩ ?_ (.inl ⟨by rfl, ?_⟩) hS ?_
  rotate_left
  · (intro w hSw; (try dsimp only at hSw); go_simp; (try with_reducible rfl))
  try simp only [Act.put, sb, s0, sz]
  refine wpAnyH_ready (rs := [0]) (by kernel_rfl) (by simp) ?_
  refine (AllReadyH.cons (o := { dst := some 25, op := Go.Op.call { callee := Go.Callee.value (Go.Operand.func 41), args := #[], argTypes := #[] }, type := 88, pos := "node.go:87", after := #[], guard := none }) rfl (fun K hK => ?_) AllReadyH.nil)
  (go_simp; refine (New_any hE.drew).mono ?_; rintro e w3 ⟨v, rfl, p, rfl, hE3⟩)
  refine hK.out _ _ (cellV hE3 (by repeat (first | exact List.Mem.head _ | refine List.Mem.tail _ ?_)) rfl) (fun hS => ?_)
  clear hK K
  try simp only [Act.put, sb, s0, sz]
  refine wpAnyH_ready (rs := [2]) (by kernel_rfl) (by simp) ?_
  refine (AllReadyH.cons (o := { dst := some 27, op := Go.Op.call { callee := Go.Callee.value (Go.Operand.func 42), args := #[Go.Operand.tmp 25, Go.Operand.const (Go.Value.int Go.IntKind.i64 1), Go.Operand.tmp 26], argTypes := #[88, 3, 91] }, type := 88, pos := "node.go:87", after := #[{ on := 0, ground := Go.Ground.data }, { on := 1, ground := Go.Ground.data }, { on := 0, ground := Go.Ground.chain }], guard := none }) rfl (fun K hK => ?_) AllReadyH.nil)
  (go_simp; refine (pPut1 (n := 2) (by omega) hE3 (by simp)).mono ?_; rintro e w4 ⟨v, rfl, rfl, hE4⟩)
  refine hK.out _ _ (cellV hE4 (by repeat (first | exact List.Mem.head _ | refine List.Mem.tail _ ?_)) rfl) (fun hS => ?_)
  clear hK K
  try simp only [Act.put, sb, s0, sz]
  refine wpAnyH_ready (rs := [3]) (by kernel_rfl) (by simp) ?_
  refine (AllReadyH.cons (o := { dst := some 28, op := Go.Op.call { callee := Go.Callee.value (Go.Operand.func 42), args := #[Go.Operand.tmp 27, Go.Operand.const (Go.Value.int Go.IntKind.i64 1), Go.Operand.const (Go.Value.int Go.IntKind.u64 0)], argTypes := #[88, 3, 91] }, type := 88, pos := "node.go:87", after := #[{ on := 2, ground := Go.Ground.data }, { on := 2, ground := Go.Ground.chain }], guard := none }) rfl (fun K hK => ?_) AllReadyH.nil)
  (go_simp; refine (pPut1 (n := 0) (by omega) hE4 (by simp)).mono ?_; rintro e w5 ⟨v, rfl, rfl, hE5⟩)
  refine hK.out _ _ (cellV hE5 (by repeat (first | exact List.Mem.head _ | refine List.Mem.tail _ ?_)) rfl) (fun hS => ?_)
  clear hK K
  try simp only [Act.put, sb, s0, sz]
  refine wpAnyH_ready (rs := [8]) (by kernel_rfl) (by simp) ?_
  refine (AllReadyH.cons (o := { dst := some 33, op := Go.Op.call { callee := Go.Callee.value (Go.Operand.func 42), args := #[Go.Operand.tmp 28, Go.Operand.const (Go.Value.int Go.IntKind.i64 2), Go.Operand.tmp 32], argTypes := #[88, 3, 91] }, type := 88, pos := "node.go:87", after := #[{ on := 3, ground := Go.Ground.data }, { on := 7, ground := Go.Ground.data }, { on := 3, ground := Go.Ground.chain }], guard := none }) rfl (fun K hK => ?_) AllReadyH.nil)
  (go_simp; refine (pPut2 (n := keys.length) (by omega) hE5 (by simp)).mono ?_; rintro e w6 ⟨v, rfl, rfl, hE6⟩)
  refine hK.out _ _ (cellV hE6 (by repeat (first | exact List.Mem.head _ | refine List.Mem.tail _ ?_)) rfl) (fun hS => ?_)
  clear hK K
  try simp only [Act.put, sb, s0, sz]
  refine takeW 9 ⟨some 7, .assign (.tmp 33), 88, "node.go:87", #[⟨8, .data⟩, ⟨8, .chain⟩, ⟨0, .phase⟩, ⟨1, .phase⟩, ⟨2, .phase⟩, ⟨3, .phase⟩, ⟨4, .phase⟩, ⟨5, .phase⟩, ⟨6, .phase⟩, ⟨7, .phase⟩, ⟨8, .phase⟩], none⟩ ?_ (.inl ⟨by rfl, ?_⟩) hS ?_
  rotate_left
  · (intro w hSw; (try dsimp only at hSw); go_simp; (try with_reducible rfl))
  try simp only [Act.put, sb, s0, sz]
  refine wpAnyH_done (by kernel_rfl) ?_ _
  rw [← Hhead.out] at hE6
  go_wp2_with (first
    | go_skip
    | ((with_reducible (show Go.wpList _ _ _ (Go.Oper.mk _ (.load _ _) _ _ _ _ :: _) _ _)); refine wpl_load1 hE6 1 rfl rfl rfl rfl (by simp [go_sem]) rfl ?_))
  go_loopw [9, 37] (fun _ i wr => KdRel p hd kids (ndB b3 70 false keys vals kids ka va ia kc vc ic :: shB b2 68 kw vw :: l) i wr) (fun _ i _ => kids.length - (intOf i).toNat)
  case atStart => exact ⟨0, Nat.zero_le _, rfl, by simpa [kidU] using hE6⟩
  case round =>
    clear hE hE3 hE4 hE5 hE6
    obtain ⟨k, hkl, rfl, hE⟩ := hrel
    by_cases hlt : k < kids.length
    · obtain ⟨bb, bo, rfl, k0⟩ := reads_map (hi _ (hE.suf (by repeat (first | exact List.suffix_refl _ | refine List.IsSuffix.trans ?_ (List.suffix_cons _ _))))) hlt
      obtain ⟨m, hm1, hm2, hm3⟩ := Hkid.out k hlt
      rw [hm1, intv] at k0
      have Hs := SL.hid (show kidU kids (k + 1) = kidU kids k ++ be 2 m by rw [kidU, hm3]; rfl)
      have Hkl := SL.hid (kidU_len kids k)
      clear hm1 hm3
      generalize kidU kids k = ku at *
      have hwm : IntKind.u64.wrap (m : Int) = (m : Int) := wrapU_id (by omega)
      go_wp2_with (first
        | go_skip
        | (go_at_call 42; refine (pPut2 (n := m) hm2 hE (by have := Hhl.out; have := Hkl.out; rw [List.length_append]; omega)).mono ?_; clear hE; rintro e w7 ⟨v, rfl, rfl, hE⟩))
      go_roundw
      case rel => exact ⟨k + 1, hlt, by first | rfl | simp, by rw [Hs.out, ← List.append_assoc]; exact hE⟩
      case measure => simp [intOf] <;> omega
    · obtain rfl : k = kids.length := by omega
      have Hkl := SL.hid (kidU_len kids kids.length)
      generalize kidU kids kids.length = ku at *
      go_wp2_with (first
        | go_skip
        | ((with_reducible (show Go.wpList _ _ _ (Go.Oper.mk _ (.load _ _) _ _ _ _ :: _) _ _)); refine wpl_load1 hE 1 rfl rfl rfl rfl (by simp [go_sem]) rfl ?_))
      go_loopw [10, 11, 49] (fun _ _ i wr => EnRel p (hd ++ ku) false keys vals (ndB b3 70 false keys vals kids ka va ia kc vc ic :: shB b2 68 kw vw :: l) i wr) (fun _ _ i _ => keys.length - (intOf i).toNat)
      case atStart => exact ⟨0, Nat.zero_le _, rfl, by simpa [entU] using hE⟩
      case round =>
        clear hE hlt hkl
        obtain ⟨j, hjl, rfl, hE⟩ := hrel
        by_cases hlt : j < keys.length
        · obtain ⟨bb, bo, rfl, k0⟩ := reads_map (hk _ (hE.suf (by repeat (first | exact List.suffix_refl _ | refine List.IsSuffix.trans ?_ (List.suffix_cons _ _))))) hlt
          have Hg := SL.hid (show keys.getD j [] = keys[j] by rw [List.getD_eq_getElem?_getD, List.getElem?_eq_getElem hlt]; rfl)
          have h5 := Hq5.out j hlt
          rw [Hg.out] at h5
          have hel := Hel.out j hjl
          have Hs := SL.hid (show entU false keys vals (j + 1) = entU false keys vals j ++ keys[j] by rw [entU, Hg.out]; simp)
          clear Hg
          generalize keys[j] = x at *
          rw [strv] at k0
          generalize entU false keys vals j = eu at *
          have Hb1 := SL.hid (show ((hd ++ ku) ++ eu).length ≤ 100000 by have := Hhl.out; have := Hkl.out; rw [List.length_append, List.length_append]; omega)
          clear hel
          go_wp2_with (first
            | go_skip
            | (go_at_call 48; have H := Text_any p x hE (by have := Hb1.out; omega); refine H.mono ?_; clear H hE; rintro e w7 ⟨v, rfl, rfl, hE7⟩)
            | ((with_reducible (show Go.wpList _ _ _ (Go.Oper.mk _ (.load 4 _) _ _ _ _ :: _) _ _)); refine wpl_load1 hE7 1 rfl rfl rfl rfl (by simp [go_sem]) rfl ?_)
            | ((with_reducible (show Go.wpList _ _ _ (Go.Oper.mk _ (.load 63 _) _ _ _ _ :: _) _ _)); refine wpl_load1 hE7 1 rfl rfl rfl rfl (by simp [go_sem]) rfl ?_))
          go_roundw
          case rel => exact ⟨j + 1, hlt, by first | rfl | simp, by rw [Hs.out, ← List.append_assoc]; exact hE7⟩
          case measure => simp [intOf] <;> omega
        · obtain rfl : j = keys.length := by omega
          rw [← Hbody.out] at hE
          have hbl := Hlen.out
          obtain ⟨z, hz⟩ : ∃ z : Nat, z = 512 - body.length := ⟨_, rfl⟩
          have Hz := SL.hid hz
          have hz1 : (512 : Int) - (body.length : Int) = (z : Int) := by omega
          have hz2 : max (0 : Int) (z : Int) = (z : Int) := by omega
          have hz3 : z ≤ 512 := by omega
          clear hz
          go_wp2_with (first
            | go_skip
            | (go_at_call 44; refine (Bytes_ok hE (by omega)).mono ?_; clear hE; rintro e w7 ⟨v, rfl, ao, c, rfl, hE7⟩)
            | (go_at_call 71; refine (Repeat_zeros z (by omega) hE7).mono ?_; clear hE7; rintro e w8 ⟨v, rfl, rfl, hE8⟩)
            | ((with_reducible (show Go.wpList _ _ _ (Go.Oper.mk _ (.call { callee := .builtin .append, args := _, argTypes := _ }) _ _ _ _ :: _) _ _)); refine wpl_appendS hE8 0 rfl rfl rfl rfl rfl (by rw [List.length_replicate]; omega) ?_; clear hE8; intro ao2 c2 w9 hE9))
          have hpl : body.length + z = page.length := by rw [Hpage.out, List.length_append, List.length_replicate, Hz.out]
          rw [Hz.out, ← Hpage.out] at hE9
          go_ret2
          exact ⟨_, rfl, ao2, c2, by rw [← hpl]; first | done | rfl, ((hE9.erase 1).erase 1).erase 1⟩

theorem Put_node {kw vw : Int} {leaf : Bool} {keys vals : List (List UInt8)} {kids : List Int} {ka va ia : Option Addr} {kc vc ic : Nat} (bk : keys.length ≤ 100000) (bv : vals.length ≤ 100000) (bi : kids.length ≤ 100000) {l : List HProp} {w : World} (hE : Ent l w) (hk : Knows l (reads (.slice ka keys.length kc) keys.length (keys.map strv))) (hv : Knows l (reads (.slice va vals.length vc) vals.length (vals.map strv))) (hi : Knows l (reads (.slice ia kids.length ic) kids.length (kids.map intv))) :
    Calls Try.prog 33 #[.agg #[.int .i64 kw, .int .i64 vw], .agg #[.bool leaf, .slice ka keys.length kc, .slice va vals.length vc, .slice ia kids.length ic]] w (Ret fun v w' => ∃ ao c, v = .tuple #[.slice ao (putU kw vw ⟨leaf, keys, vals, kids⟩).length c, .int .i64 (putE kw vw ⟨leaf, keys, vals, kids⟩)] ∧ Ent (rowB ao c (putU kw vw ⟨leaf, keys, vals, kids⟩) :: l) w') := by
  cases hn : mayN kw vw ⟨leaf, keys, vals, kids⟩ with
  | true =>
    rw [putU, putE, hn]
    cases leaf with
    | true => exact putYes_true bk bv bi hE hk hv hi hn
    | false => exact putYes_false bk bv bi hE hk hv hi hn
  | false =>
    rw [putU, putE, hn]
    have key : ∀ {e : Ending} {w' : World}, (Ret fun v w' => v = .tuple #[.slice none 0 0, .int .i64 2] ∧ Ent l w') e w' → (Ret fun v w' => ∃ ao c, v = .tuple #[.slice ao ([] : List UInt8).length c, .int .i64 2] ∧ Ent (rowB ao c [] :: l) w') e w' := by
      rintro e w' ⟨v, rfl, rfl, hE'⟩
      exact ⟨_, rfl, none, 0, rfl, hE'.nil _ _⟩
    cases leaf with
    | true => exact (putNot_true bk bv bi hE hk hv hi hn).mono fun _ _ h => key h
    | false => exact (putNot_false bk bv bi hE hk hv hi hn).mono fun _ _ h => key h
end Go.Proofs.Ytohdljcpaogokaa
