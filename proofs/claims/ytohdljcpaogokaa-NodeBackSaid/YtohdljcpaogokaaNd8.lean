/-
  A node's page as the document puts it; the law's own functions: a node as the program has it, two nodes compared, too great nodes; where a key is. Printed by gen_nd8.py.
-/
import Derived.Test.YtohdljcpaogokaaNd7b
import Derived.Test.YtohdljcpaogokaaNu
import Derived.Test.YtohdljcpaogokaaOrd
namespace Go.Proofs
open Go.Shelf
shelf_lay Lays2.n26 Nm2 26 at Try as Try.lays2n26
end Go.Proofs
namespace Go.Proofs.Ytohdljcpaogokaa
open Go.RowKit Go.SL

/-- a new row of zero bytes -/
theorem wpl_makeB {ops : Array Oper} {rest : List Oper} {o : Oper} {a : Act} {Q : Exit → Act → World → Prop} {w : World} {l : List HProp} (hE : Ent l w) {x y : Operand} (ho : o.op = .makeSlice 42 x y) (hw : Region.wanted o (yielded ops a.tmps) = true) {kl kc : IntKind} (n : Nat) (hn : n ≤ 1000000)
    (hx : a.eval x = .int kl (n : Int)) (hy : a.eval y = .int kc (n : Int))
    (h : ∀ g w' (zs : List UInt8), zs = List.replicate n 0 → zs.length = n → Ent (row 5 1 (.slice (some ⟨g, 0, none⟩) n n) n (bvals zs) :: l) w' → wpList Try.prog ops Q rest (a.put o.dst (.slice (some ⟨g, 0, none⟩) n n)) w') : wpList Try.prog ops Q (o :: rest) a w := by
  refine wpl_make hE ho hw Try.underlying42 (zs := [.int .u8 0]) (size := 1) (bytes := 1) (by kernel_rfl) rfl (by decide) n hx hy (by omega) (by omega) ?_
  intro g w' hE'
  refine h g w' (List.replicate n 0) rfl (List.length_replicate ..) ?_
  have e : (List.replicate n [Value.int .u8 0]).flatten = bvals (List.replicate n 0) := by
    clear hE' h hx hy hn
    induction n with
    | zero => rfl
    | succ n ih => rw [List.replicate_succ, List.flatten_cons, ih]; rfl
  rw [e] at hE'
  exact hE'

theorem rnum2 {n : Nat} (hn : n < 65536) {l : List HProp} {w : World} (hE : Ent l w) :
    Calls Try.prog 73 #[.int .i64 n] w (Ret fun v w' => v = .string ⟨(be 2 n).toArray⟩ ∧ Ent l w') := by
  have hw : IntKind.u64.wrap (n : Int) = (n : Int) := wrapU_id (by omega)
  go_enter Try.func73, Try.ntmps73
  go_wp2_with (first
    | go_skip
    | (go_at_call 115; refine (Num_any n (by omega) 2 hE).mono ?_; clear hE; rintro e w2 ⟨v, rfl, rfl, hE⟩))
  go_ret
  exact ⟨_, rfl, rfl, hE⟩

def RK (h : List UInt8) (ks : List Int) (l : List HProp) (b i : Value) (wr : World) : Prop := ∃ (k : Nat) (bs : List UInt8), k ≤ ks.length ∧ i = .int .i64 k ∧ b = .string ⟨bs.toArray⟩ ∧ bs = h ++ kidU ks k ∧ Ent l wr
def RE (h : List UInt8) (leaf : Bool) (ks vs : List (List UInt8)) (l : List HProp) (b i : Value) (wr : World) : Prop := ∃ (k : Nat) (bs : List UInt8), k ≤ ks.length ∧ i = .int .i64 k ∧ b = .string ⟨bs.toArray⟩ ∧ bs = h ++ entU leaf ks vs k ∧ Ent l wr


set_option maxRecDepth 100000 in
set_option maxHeartbeats 8000000 in
theorem rput_true {kw vw : Int} {keys vals : List (List UInt8)} {kids : List Int} {ka va ia : Option Addr} {kc vc ic : Nat} (bk : keys.length ≤ 100000) (bv : vals.length ≤ 100000) (bi : kids.length ≤ 100000) {l : List HProp} {w : World} (hE : Ent l w) (hk : Knows l (reads (.slice ka keys.length kc) keys.length (keys.map strv))) (hv : Knows l (reads (.slice va vals.length vc) vals.length (vals.map strv))) (hi : Knows l (reads (.slice ia kids.length ic) kids.length (kids.map intv))) (hn : mayN kw vw ⟨true, keys, vals, kids⟩ = true) :
    Calls Try.prog 37 #[.agg #[.int .i64 kw, .int .i64 vw], .agg #[.bool true, .slice ka keys.length kc, .slice va vals.length vc, .slice ia kids.length ic]] w (Ret fun v w' => v = .string ⟨(pageU ⟨true, keys, vals, kids⟩).toArray⟩ ∧ Ent l w') := by
  have Hlen := SL.hid (body_len hn)
  obtain ⟨q1, q2, q3, q4, q5, q6⟩ := may_parts hn
  simp only at q1 q2 q3 q4 q5 q6
  have Hel := SL.hid (fun i => entU_len (leaf := true) (ks := keys) (vs := vals) q5 q6 i)
  have Hkid := SL.hid (fun (i : Nat) (h : i < kids.length) => kid_nat q3 h)
  have Hq4 := SL.hid q4
  have Hq5 := SL.hid q5
  have Hq6 := SL.hid q6
  clear q3 q4 q5 q6 hn
  have Hbody := SL.hid (show bodyU ⟨true, keys, vals, kids⟩ = headU ⟨true, keys, vals, kids⟩ ++ kidU kids kids.length ++ entU true keys vals keys.length by rw [bodyU, List.append_assoc])
  have Hpage := SL.hid (show pageU ⟨true, keys, vals, kids⟩ = bodyU ⟨true, keys, vals, kids⟩ ++ List.replicate (512 - (bodyU ⟨true, keys, vals, kids⟩).length) 0 from rfl)
  generalize pageU ⟨true, keys, vals, kids⟩ = page at *
  generalize bodyU ⟨true, keys, vals, kids⟩ = body at *
  have Hhead := SL.hid (show headU ⟨true, keys, vals, kids⟩ = [1, 0] ++ be 2 keys.length from rfl)
  generalize hhd : headU ⟨true, keys, vals, kids⟩ = hd at *
  clear hhd
  have Hhl := SL.hid (show hd.length = 4 by rw [Hhead.out]; simp [be_length])
  have hN := fun {l : List HProp} {w : World} (h : Ent l w) => rnum2 (n := keys.length) (by omega) h
  obtain ⟨p1, hp1, hj1, hc1⟩ := cat2 [2, 0] (be 2 keys.length) (by simp [be_length])
  have Hp1 := SL.hid hp1
  clear hp1
  obtain ⟨p2, hp2, hj2, hc2⟩ := cat2 [1, 0] (be 2 keys.length) (by simp [be_length])
  have Hp2 := SL.hid (show p2 = hd by rw [hp2, Hhead.out])
  clear hp2
  generalize be 2 keys.length = y at *
  go_enter Try.func37, Try.ntmps37
  go_wp2_with (first
    | go_skip
    | ((with_reducible (show Go.wpList _ _ _ (Go.Oper.mk _ (.box _ (.tmp 0)) _ _ _ _ :: _) _ _)); refine wpl_box hE rfl rfl rfl ?_; clear hE; intro b2 w hE; simp only [Act.eval, Act.put, List.setIfInBounds_toArray, List.set_cons_zero, List.set_cons_succ, getD_lit, List.getD_cons_succ, List.getD_cons_zero, Value.cells] at hE)
    | ((with_reducible (show Go.wpList _ _ _ (Go.Oper.mk _ (.box _ (.tmp 1)) _ _ _ _ :: _) _ _)); refine wpl_box hE rfl rfl rfl ?_; clear hE; intro b3 w hE; simp only [Act.eval, Act.put, List.setIfInBounds_toArray, List.set_cons_zero, List.set_cons_succ, getD_lit, List.getD_cons_succ, List.getD_cons_zero, Value.cells] at hE)
    | (go_at_call 73; refine (hN hE).mono ?_; clear hE; rintro e w2 ⟨v, rfl, rfl, hE⟩)
    | ((with_reducible (show Go.wpList _ _ _ (Go.Oper.mk _ (.load _ _) _ _ _ _ :: _) _ _)); refine wpl_load1 hE 0 rfl rfl rfl rfl (by simp [go_sem]) rfl ?_))
  go_loopw [5, 6] (fun b i wr => RK hd kids (ndB b3 66 true keys vals kids ka va ia kc vc ic :: shB b2 62 kw vw :: l) b i wr) (fun _ i _ => kids.length - (intOf i).toNat)
  case atStart => exact ⟨0, _, Nat.zero_le _, rfl, rfl, by rw [Hp2.out]; simp [kidU], hE⟩
  case round =>
    clear hE
    obtain ⟨k, bs, hkl, rfl, rfl, hbs, hE⟩ := hrel
    have Hbs := SL.hid hbs
    clear hbs
    have Hkl := SL.hid (kidU_len kids k)
    by_cases hlt : k < kids.length
    · obtain ⟨bb, bo, rfl, k0⟩ := reads_map (hi _ (hE.suf (by repeat (first | exact List.suffix_refl _ | refine List.IsSuffix.trans ?_ (List.suffix_cons _ _))))) hlt
      obtain ⟨m, hm1, hm2, hm3⟩ := Hkid.out k hlt
      rw [hm1, intv] at k0
      have Hs := SL.hid (show kidU kids (k + 1) = kidU kids k ++ be 2 m by rw [kidU, hm3]; rfl)
      clear hm1 hm3
      obtain ⟨p3, hp3, hj3, hc3⟩ := cat2 bs (be 2 m) (by have h1 := Hhl.out; have h2 := Hkl.out; rw [Hbs.out, List.length_append, be_length]; omega)
      have Hz := SL.hid (show p3 = hd ++ kidU kids (k + 1) by rw [hp3, Hbs.out, Hs.out, List.append_assoc])
      clear hp3
      have hM := fun {l : List HProp} {w : World} (h : Ent l w) => rnum2 (n := m) hm2 h
      generalize be 2 m = ym at *
      go_wp2_with (first
        | go_skip
        | (go_at_call 73; refine (hM hE).mono ?_; clear hE; rintro e w2 ⟨v, rfl, rfl, hE⟩)
        | ((with_reducible (show Go.wpList _ _ _ (Go.Oper.mk _ (.load _ _) _ _ _ _ :: _) _ _)); refine wpl_load1 hE 0 rfl rfl rfl rfl (by simp [go_sem]) rfl ?_))
      go_roundw
      case rel => exact ⟨k + 1, _, hlt, by first | rfl | simp, rfl, Hz.out, hE⟩
      case measure => simp [intOf] <;> omega
    · obtain rfl : k = kids.length := by omega
      generalize kidU kids kids.length = ku at *
      go_wp2_with (first
        | go_skip
        | ((with_reducible (show Go.wpList _ _ _ (Go.Oper.mk _ (.load _ _) _ _ _ _ :: _) _ _)); refine wpl_load1 hE 0 rfl rfl rfl rfl (by simp [go_sem]) rfl ?_))
      go_loopw [5, 7] (fun b i wr => RE (hd ++ ku) true keys vals (ndB b3 66 true keys vals kids ka va ia kc vc ic :: shB b2 62 kw vw :: l) b i wr) (fun _ i _ => keys.length - (intOf i).toNat)
      case atStart => exact ⟨0, _, Nat.zero_le _, rfl, rfl, by rw [Hbs.out]; simp [entU], hE⟩
      case round =>
        clear hE hlt hkl Hbs
        obtain ⟨j, es, hjl, rfl, rfl, hes, hE⟩ := hrel
        have Hes := SL.hid hes
        clear hes
        by_cases hlt : j < keys.length
        · obtain ⟨bb, bo, rfl, k0⟩ := reads_map (hk _ (hE.suf (by repeat (first | exact List.suffix_refl _ | refine List.IsSuffix.trans ?_ (List.suffix_cons _ _))))) hlt
          have Hg := SL.hid (show keys.getD j [] = keys[j] by rw [List.getD_eq_getElem?_getD, List.getElem?_eq_getElem hlt]; rfl)
          have h5 := Hq5.out j hlt
          rw [Hg.out] at h5
          have hel := Hel.out j hjl
          have hesl : es.length ≤ 100000 := by have h1 := Hhl.out; have h2 := Hkl.out; rw [Hes.out, List.length_append, List.length_append]; omega
          obtain ⟨p3, hp3, hj3, hc3⟩ := cat2 es keys[j] (by omega)
          have hpl : p3.length ≤ 200000 := by rw [hp3, List.length_append]; omega
          have hjv : j < vals.length := by rw [Hq4.out (by first | exact rfl | trivial)]; exact hlt
          obtain ⟨vb, vo, rfl, v0⟩ := reads_map (hv _ (hE.suf (by repeat (first | exact List.suffix_refl _ | refine List.IsSuffix.trans ?_ (List.suffix_cons _ _))))) hjv
          have Hgv := SL.hid (show vals.getD j [] = vals[j] by rw [List.getD_eq_getElem?_getD, List.getElem?_eq_getElem hjv]; rfl)
          have h6 := Hq6.out j hjv
          rw [Hgv.out] at h6
          obtain ⟨p4, hp4, hj4, hc4⟩ := cat2 p3 vals[j] (by omega)
          have Hz := SL.hid (show p4 = (hd ++ ku) ++ entU true keys vals (j + 1) by rw [hp4, hp3, Hes.out, entU, Hg.out, Hgv.out]; simp)
          clear Hgv hp4
          generalize vals[j] = y2 at *
          rw [strv] at v0
          clear Hg hp3 hel h5 hesl hpl
          generalize keys[j] = x at *
          rw [strv] at k0
          go_wp2_with (first
            | go_skip
            | ((with_reducible (show Go.wpList _ _ _ (Go.Oper.mk _ (.load _ _) _ _ _ _ :: _) _ _)); refine wpl_load1 hE 0 rfl rfl rfl rfl (by simp [go_sem]) rfl ?_))
          go_roundw
          case rel => exact ⟨j + 1, _, hlt, by first | rfl | simp, rfl, Hz.out, hE⟩
          case measure => simp [intOf] <;> omega
        · obtain rfl : j = keys.length := by omega
          have Hbd := SL.hid (show es = body by rw [Hes.out, Hbody.out])
          have hbl : es.length ≤ 512 := by rw [Hbd.out]; exact Hlen.out
          obtain ⟨z, hz⟩ : ∃ z : Nat, z = 512 - es.length := ⟨_, rfl⟩
          have Hz := SL.hid hz
          have hz1 : (512 : Int) - (es.length : Int) = (z : Int) := by omega
          have hz3 : z ≤ 512 := by omega
          clear hz
          go_wp2_with (first
            | go_skip
            | ((with_reducible (show Go.wpList _ _ _ (Go.Oper.mk _ (.load _ _) _ _ _ _ :: _) _ _)); refine wpl_load1 hE 0 rfl rfl rfl rfl (by simp [go_sem]) rfl ?_)
            | ((with_reducible (show Go.wpList _ _ _ (Go.Oper.mk _ (.makeSlice _ _ _) _ _ _ _ :: _) _ _)); refine wpl_makeB hE rfl rfl z (by omega) rfl rfl ?_; clear hE; intro g w9 zs hzs hzl hE9; obtain ⟨p5, hp5, hj5, hc5⟩ := cat2 es zs (by omega); have Hp5 := SL.hid hp5; have Hzs := SL.hid hzs; clear hp5 hzs)
            | ((with_reducible (show Go.wpList _ _ _ (Go.Oper.mk _ (.convert _ _ _) _ _ _ _ :: _) _ _)); refine wpl_bytesStr (bs := zs) rfl rfl rfl Try.underlying42 Try.underlying5 Try.underlying9 (reads_row hE9 0 rfl) hzl.symm ?_))
          go_ret
          refine ⟨_, rfl, ?_, hE9.tail.tail.tail⟩
          rw [Hp5.out, Hzs.out, Hpage.out, Hz.out, Hbd.out]; rfl

set_option maxRecDepth 100000 in
set_option maxHeartbeats 8000000 in
theorem rput_false {kw vw : Int} {keys vals : List (List UInt8)} {kids : List Int} {ka va ia : Option Addr} {kc vc ic : Nat} (bk : keys.length ≤ 100000) (bv : vals.length ≤ 100000) (bi : kids.length ≤ 100000) {l : List HProp} {w : World} (hE : Ent l w) (hk : Knows l (reads (.slice ka keys.length kc) keys.length (keys.map strv))) (hv : Knows l (reads (.slice va vals.length vc) vals.length (vals.map strv))) (hi : Knows l (reads (.slice ia kids.length ic) kids.length (kids.map intv))) (hn : mayN kw vw ⟨false, keys, vals, kids⟩ = true) :
    Calls Try.prog 37 #[.agg #[.int .i64 kw, .int .i64 vw], .agg #[.bool false, .slice ka keys.length kc, .slice va vals.length vc, .slice ia kids.length ic]] w (Ret fun v w' => v = .string ⟨(pageU ⟨false, keys, vals, kids⟩).toArray⟩ ∧ Ent l w') := by
  have Hlen := SL.hid (body_len hn)
  obtain ⟨q1, q2, q3, q4, q5, q6⟩ := may_parts hn
  simp only at q1 q2 q3 q4 q5 q6
  have Hel := SL.hid (fun i => entU_len (leaf := false) (ks := keys) (vs := vals) q5 q6 i)
  have Hkid := SL.hid (fun (i : Nat) (h : i < kids.length) => kid_nat q3 h)
  have Hq4 := SL.hid q4
  have Hq5 := SL.hid q5
  have Hq6 := SL.hid q6
  clear q3 q4 q5 q6 hn
  have Hbody := SL.hid (show bodyU ⟨false, keys, vals, kids⟩ = headU ⟨false, keys, vals, kids⟩ ++ kidU kids kids.length ++ entU false keys vals keys.length by rw [bodyU, List.append_assoc])
  have Hpage := SL.hid (show pageU ⟨false, keys, vals, kids⟩ = bodyU ⟨false, keys, vals, kids⟩ ++ List.replicate (512 - (bodyU ⟨false, keys, vals, kids⟩).length) 0 from rfl)
  generalize pageU ⟨false, keys, vals, kids⟩ = page at *
  generalize bodyU ⟨false, keys, vals, kids⟩ = body at *
  have Hhead := SL.hid (show headU ⟨false, keys, vals, kids⟩ = [2, 0] ++ be 2 keys.length from rfl)
  generalize hhd : headU ⟨false, keys, vals, kids⟩ = hd at *
  clear hhd
  have Hhl := SL.hid (show hd.length = 4 by rw [Hhead.out]; simp [be_length])
  have hN := fun {l : List HProp} {w : World} (h : Ent l w) => rnum2 (n := keys.length) (by omega) h
  obtain ⟨p1, hp1, hj1, hc1⟩ := cat2 [2, 0] (be 2 keys.length) (by simp [be_length])
  have Hp1 := SL.hid hp1
  clear hp1
  have Hp2 := SL.hid (show p1 = hd by rw [Hp1.out, Hhead.out])
  generalize be 2 keys.length = y at *
  go_enter Try.func37, Try.ntmps37
  go_wp2_with (first
    | go_skip
    | ((with_reducible (show Go.wpList _ _ _ (Go.Oper.mk _ (.box _ (.tmp 0)) _ _ _ _ :: _) _ _)); refine wpl_box hE rfl rfl rfl ?_; clear hE; intro b2 w hE; simp only [Act.eval, Act.put, List.setIfInBounds_toArray, List.set_cons_zero, List.set_cons_succ, getD_lit, List.getD_cons_succ, List.getD_cons_zero, Value.cells] at hE)
    | ((with_reducible (show Go.wpList _ _ _ (Go.Oper.mk _ (.box _ (.tmp 1)) _ _ _ _ :: _) _ _)); refine wpl_box hE rfl rfl rfl ?_; clear hE; intro b3 w hE; simp only [Act.eval, Act.put, List.setIfInBounds_toArray, List.set_cons_zero, List.set_cons_succ, getD_lit, List.getD_cons_succ, List.getD_cons_zero, Value.cells] at hE)
    | (go_at_call 73; refine (hN hE).mono ?_; clear hE; rintro e w2 ⟨v, rfl, rfl, hE⟩)
    | ((with_reducible (show Go.wpList _ _ _ (Go.Oper.mk _ (.load _ _) _ _ _ _ :: _) _ _)); refine wpl_load1 hE 0 rfl rfl rfl rfl (by simp [go_sem]) rfl ?_))
  go_loopw [5, 6] (fun b i wr => RK hd kids (ndB b3 66 false keys vals kids ka va ia kc vc ic :: shB b2 62 kw vw :: l) b i wr) (fun _ i _ => kids.length - (intOf i).toNat)
  case atStart => exact ⟨0, _, Nat.zero_le _, rfl, rfl, by rw [Hp2.out]; simp [kidU], hE⟩
  case round =>
    clear hE
    obtain ⟨k, bs, hkl, rfl, rfl, hbs, hE⟩ := hrel
    have Hbs := SL.hid hbs
    clear hbs
    have Hkl := SL.hid (kidU_len kids k)
    by_cases hlt : k < kids.length
    · obtain ⟨bb, bo, rfl, k0⟩ := reads_map (hi _ (hE.suf (by repeat (first | exact List.suffix_refl _ | refine List.IsSuffix.trans ?_ (List.suffix_cons _ _))))) hlt
      obtain ⟨m, hm1, hm2, hm3⟩ := Hkid.out k hlt
      rw [hm1, intv] at k0
      have Hs := SL.hid (show kidU kids (k + 1) = kidU kids k ++ be 2 m by rw [kidU, hm3]; rfl)
      clear hm1 hm3
      obtain ⟨p3, hp3, hj3, hc3⟩ := cat2 bs (be 2 m) (by have h1 := Hhl.out; have h2 := Hkl.out; rw [Hbs.out, List.length_append, be_length]; omega)
      have Hz := SL.hid (show p3 = hd ++ kidU kids (k + 1) by rw [hp3, Hbs.out, Hs.out, List.append_assoc])
      clear hp3
      have hM := fun {l : List HProp} {w : World} (h : Ent l w) => rnum2 (n := m) hm2 h
      generalize be 2 m = ym at *
      go_wp2_with (first
        | go_skip
        | (go_at_call 73; refine (hM hE).mono ?_; clear hE; rintro e w2 ⟨v, rfl, rfl, hE⟩)
        | ((with_reducible (show Go.wpList _ _ _ (Go.Oper.mk _ (.load _ _) _ _ _ _ :: _) _ _)); refine wpl_load1 hE 0 rfl rfl rfl rfl (by simp [go_sem]) rfl ?_))
      go_roundw
      case rel => exact ⟨k + 1, _, hlt, by first | rfl | simp, rfl, Hz.out, hE⟩
      case measure => simp [intOf] <;> omega
    · obtain rfl : k = kids.length := by omega
      generalize kidU kids kids.length = ku at *
      go_wp2_with (first
        | go_skip
        | ((with_reducible (show Go.wpList _ _ _ (Go.Oper.mk _ (.load _ _) _ _ _ _ :: _) _ _)); refine wpl_load1 hE 0 rfl rfl rfl rfl (by simp [go_sem]) rfl ?_))
      go_loopw [5, 7] (fun b i wr => RE (hd ++ ku) false keys vals (ndB b3 66 false keys vals kids ka va ia kc vc ic :: shB b2 62 kw vw :: l) b i wr) (fun _ i _ => keys.length - (intOf i).toNat)
      case atStart => exact ⟨0, _, Nat.zero_le _, rfl, rfl, by rw [Hbs.out]; simp [entU], hE⟩
      case round =>
        clear hE hlt hkl Hbs
        obtain ⟨j, es, hjl, rfl, rfl, hes, hE⟩ := hrel
        have Hes := SL.hid hes
        clear hes
        by_cases hlt : j < keys.length
        · obtain ⟨bb, bo, rfl, k0⟩ := reads_map (hk _ (hE.suf (by repeat (first | exact List.suffix_refl _ | refine List.IsSuffix.trans ?_ (List.suffix_cons _ _))))) hlt
          have Hg := SL.hid (show keys.getD j [] = keys[j] by rw [List.getD_eq_getElem?_getD, List.getElem?_eq_getElem hlt]; rfl)
          have h5 := Hq5.out j hlt
          rw [Hg.out] at h5
          have hel := Hel.out j hjl
          have hesl : es.length ≤ 100000 := by have h1 := Hhl.out; have h2 := Hkl.out; rw [Hes.out, List.length_append, List.length_append]; omega
          obtain ⟨p3, hp3, hj3, hc3⟩ := cat2 es keys[j] (by omega)
          have hpl : p3.length ≤ 200000 := by rw [hp3, List.length_append]; omega
          have Hz := SL.hid (show p3 = (hd ++ ku) ++ entU false keys vals (j + 1) by rw [hp3, Hes.out, entU, Hg.out]; simp)
          clear Hg hp3 hel h5 hesl hpl
          generalize keys[j] = x at *
          rw [strv] at k0
          go_wp2_with (first
            | go_skip
            | ((with_reducible (show Go.wpList _ _ _ (Go.Oper.mk _ (.load _ _) _ _ _ _ :: _) _ _)); refine wpl_load1 hE 0 rfl rfl rfl rfl (by simp [go_sem]) rfl ?_))
          go_roundw
          case rel => exact ⟨j + 1, _, hlt, by first | rfl | simp, rfl, Hz.out, hE⟩
          case measure => simp [intOf] <;> omega
        · obtain rfl : j = keys.length := by omega
          have Hbd := SL.hid (show es = body by rw [Hes.out, Hbody.out])
          have hbl : es.length ≤ 512 := by rw [Hbd.out]; exact Hlen.out
          obtain ⟨z, hz⟩ : ∃ z : Nat, z = 512 - es.length := ⟨_, rfl⟩
          have Hz := SL.hid hz
          have hz1 : (512 : Int) - (es.length : Int) = (z : Int) := by omega
          have hz3 : z ≤ 512 := by omega
          clear hz
          go_wp2_with (first
            | go_skip
            | ((with_reducible (show Go.wpList _ _ _ (Go.Oper.mk _ (.load _ _) _ _ _ _ :: _) _ _)); refine wpl_load1 hE 0 rfl rfl rfl rfl (by simp [go_sem]) rfl ?_)
            | ((with_reducible (show Go.wpList _ _ _ (Go.Oper.mk _ (.makeSlice _ _ _) _ _ _ _ :: _) _ _)); refine wpl_makeB hE rfl rfl z (by omega) rfl rfl ?_; clear hE; intro g w9 zs hzs hzl hE9; obtain ⟨p5, hp5, hj5, hc5⟩ := cat2 es zs (by omega); have Hp5 := SL.hid hp5; have Hzs := SL.hid hzs; clear hp5 hzs)
            | ((with_reducible (show Go.wpList _ _ _ (Go.Oper.mk _ (.convert _ _ _) _ _ _ _ :: _) _ _)); refine wpl_bytesStr (bs := zs) rfl rfl rfl Try.underlying42 Try.underlying5 Try.underlying9 (reads_row hE9 0 rfl) hzl.symm ?_))
          go_ret
          refine ⟨_, rfl, ?_, hE9.tail.tail.tail⟩
          rw [Hp5.out, Hzs.out, Hpage.out, Hz.out, Hbd.out]; rfl

theorem rPut_any {leaf : Bool} {kw vw : Int} {keys vals : List (List UInt8)} {kids : List Int} {ka va ia : Option Addr} {kc vc ic : Nat} (bk : keys.length ≤ 100000) (bv : vals.length ≤ 100000) (bi : kids.length ≤ 100000) {l : List HProp} {w : World} (hE : Ent l w) (hk : Knows l (reads (.slice ka keys.length kc) keys.length (keys.map strv))) (hv : Knows l (reads (.slice va vals.length vc) vals.length (vals.map strv))) (hi : Knows l (reads (.slice ia kids.length ic) kids.length (kids.map intv))) (hn : mayN kw vw ⟨leaf, keys, vals, kids⟩ = true) :
    Calls Try.prog 37 #[.agg #[.int .i64 kw, .int .i64 vw], .agg #[.bool leaf, .slice ka keys.length kc, .slice va vals.length vc, .slice ia kids.length ic]] w (Ret fun v w' => v = .string ⟨(pageU ⟨leaf, keys, vals, kids⟩).toArray⟩ ∧ Ent l w') := by
  cases leaf with
  | true => exact rput_true bk bv bi hE hk hv hi hn
  | false => exact rput_false bk bv bi hE hk hv hi hn


theorem strv_ones (xs : List (List UInt8)) : ∀ u ∈ xs.map strv, u.oneCell' = true := by
  intro u hu
  obtain ⟨x, _, rfl⟩ := List.mem_map.1 hu
  rfl
theorem intv_ones (xs : List Int) : ∀ u ∈ xs.map intv, u.oneCell' = true := by
  intro u hu
  obtain ⟨x, _, rfl⟩ := List.mem_map.1 hu
  rfl
set_option maxRecDepth 100000 in
set_option maxHeartbeats 8000000 in
attribute [-go_sem] Instr.loadAt in
theorem Of_node {leaf : Bool} {keys vals : List (List UInt8)} {kids : List Int} {ka va ia : Option Addr} {kc vc ic : Nat} (bk : keys.length ≤ 100000) (bv : vals.length ≤ 100000) (bi : kids.length ≤ 100000) {l : List HProp} {w : World} (hE : Ent l w) (hk : Knows l (reads (.slice ka keys.length kc) keys.length (keys.map strv))) (hv : Knows l (reads (.slice va vals.length vc) vals.length (vals.map strv))) (hi : Knows l (reads (.slice ia kids.length ic) kids.length (kids.map intv))) :
    Calls Try.prog 34 #[.agg #[.bool leaf, .slice ka keys.length kc, .slice va vals.length vc, .slice ia kids.length ic]] w (Ret fun v w' => ∃ k2 kd v2 vd i2 id, v = .agg #[.bool leaf, .slice k2 keys.length kd, .slice v2 vals.length vd, .slice i2 kids.length id] ∧ Ent (rowS k2 kd keys :: rowS v2 vd vals :: rowI i2 id kids :: l) w') := by
  go_enter Try.func34, Try.ntmps34
  go_wp2_with (first
    | go_skip
    | ((with_reducible (show Go.wpList _ _ _ (Go.Oper.mk _ (.box _ (.tmp 0)) _ _ _ _ :: _) _ _)); refine wpl_box hE rfl rfl rfl ?_; clear hE; intro b1 w hE; simp only [Act.eval, Act.put, List.setIfInBounds_toArray, List.set_cons_zero, List.set_cons_succ, getD_lit, List.getD_cons_succ, List.getD_cons_zero, Value.cells] at hE)
    | ((with_reducible (show Go.wpList _ _ _ (Go.Oper.mk _ (.alloc _) _ _ _ _ :: _) _ _)); refine wpl_alloc hE rfl rfl (by simp [go_sem]; rfl) ?_; clear hE; intro b2 w hE; simp only [Act.eval, Act.put, List.setIfInBounds_toArray, List.set_cons_zero, List.set_cons_succ, getD_lit, List.getD_cons_succ, List.getD_cons_zero, Value.cells] at hE))
  refine wp_region_held_drew (S := (fun w' => ((Instr.loadAt 4 (.pointer (some ⟨b1, 0, none⟩))).run Try.prog w' = .ok (.bool leaf) w') ∧ ((Instr.loadAt 63 (.pointer (some ⟨b1, 1, none⟩))).run Try.prog w' = .ok (.slice ka keys.length kc) w') ∧ ((Instr.loadAt 63 (.pointer (some ⟨b1, 2, none⟩))).run Try.prog w' = .ok (.slice va vals.length vc) w') ∧ ((Instr.loadAt 64 (.pointer (some ⟨b1, 3, none⟩))).run Try.prog w' = .ok (.slice ia kids.length ic) w'))) (by kernel_rfl) ⟨(atVm hE.drew (by repeat (first | exact List.Mem.head _ | refine List.Mem.tail _ ?_)) (by simp [go_sem]) rfl), (atVm hE.drew (by repeat (first | exact List.Mem.head _ | refine List.Mem.tail _ ?_)) (by simp [go_sem]) rfl), (atVm hE.drew (by repeat (first | exact List.Mem.head _ | refine List.Mem.tail _ ?_)) (by simp [go_sem]) rfl), (atVm hE.drew (by repeat (first | exact List.Mem.head _ | refine List.Mem.tail _ ?_)) (by simp [go_sem]) rfl)⟩ (fun hS => ?_)
  refine takeW 0 ⟨some 3, .fieldAddr 66 (.tmp 1) 0, 0, "law.go:12", #[], none⟩ ?_ (.inl ⟨by rfl, ?_⟩) hS ?_
  rotate_left
  · (intro w hSw; (try dsimp only at hSw); go_simp; (try with_reducible rfl))
  try simp only [Act.put, sb, s0, sz]
  refine takeW 1 ⟨some 4, .load 4 (.tmp 3), 4, "law.go:12", #[⟨0, .data⟩], none⟩ ?_ (.inl ⟨by rfl, ?_⟩) hS ?_
  rotate_left
  · (intro w hSw; (try dsimp only at hSw); go_simp; (try with_reducible rfl))
  try simp only [Act.put, sb, s0, sz]
  refine takeW 2 ⟨some 5, .fieldAddr 66 (.tmp 1) 1, 0, "law.go:12", #[], none⟩ ?_ (.inl ⟨by rfl, ?_⟩) hS ?_
  rotate_left
  · (intro w hSw; (try dsimp only at hSw); go_simp; (try with_reducible rfl))
  try simp only [Act.put, sb, s0, sz]
  refine takeW 3 ⟨some 6, .load 63 (.tmp 5), 63, "law.go:12", #[⟨2, .data⟩], none⟩ ?_ (.inl ⟨by rfl, ?_⟩) hS ?_
  rotate_left
  · (intro w hSw; (try dsimp only at hSw); go_simp; (try with_reducible rfl))
  try simp only [Act.put, sb, s0, sz]
  refine takeW 5 ⟨some 8, .fieldAddr 66 (.tmp 1) 2, 0, "law.go:12", #[], none⟩ ?_ (.inl ⟨by rfl, ?_⟩) hS ?_
  rotate_left
  · (intro w hSw; (try dsimp only at hSw); go_simp; (try with_reducible rfl))
  try simp only [Act.put, sb, s0, sz]
  refine takeW 6 ⟨some 9, .load 63 (.tmp 8), 63, "law.go:12", #[⟨5, .data⟩], none⟩ ?_ (.inl ⟨by rfl, ?_⟩) hS ?_
  rotate_left
  · (intro w hSw; (try dsimp only at hSw); go_simp; (try with_reducible rfl))
  try simp only [Act.put, sb, s0, sz]
  refine takeW 8 ⟨some 11, .fieldAddr 66 (.tmp 1) 3, 0, "law.go:12", #[], none⟩ ?_ (.inl ⟨by rfl, ?_⟩) hS ?_
  rotate_left
  · (intro w hSw; (try dsimp only at hSw); go_simp; (try with_reducible rfl))
  try simp only [Act.put, sb, s0, sz]
  refine takeW 9 ⟨some 12, .load 64 (.tmp 11), 64, "law.go:12", #[⟨8, .data⟩], none⟩ ?_ (.inl ⟨by rfl, ?_⟩) hS ?_
  rotate_left
  · (intro w hSw; (try dsimp only at hSw); go_simp; (try with_reducible rfl))
  try simp only [Act.put, sb, s0, sz]
  refine wpAnyH_ready (rs := [4]) (by kernel_rfl) (by simp) ?_
  refine (AllReadyH.cons (o := { dst := some 7, op := Go.Op.call { callee := Go.Callee.builtin Go.Builtin.append, args := #[Go.Operand.const (Go.Value.slice none 0 0), Go.Operand.tmp 6], argTypes := #[63, 63] }, type := 63, pos := "law.go:12", after := #[{ on := 3, ground := Go.Ground.data }], guard := none }) rfl (fun K hK => ?_) AllReadyH.nil)
  (refine step_appendG (hE.drew.nil 9 1) 0 rfl (by rfl) (by rfl) (by rfl) (by rfl) Try.underlying63 info_str (by decide) (m := keys.length) (news := keys.map strv) (hk _ (Ent.suf (hE.drew.nil 9 1) (by repeat (first | exact List.suffix_refl _ | refine List.IsSuffix.trans ?_ (List.suffix_cons _ _))))) (by simp) (strv_ones _) (by omega) (by omega) ?_; intro k2 kd w3 hE3; simp only [List.set_cons_zero, List.nil_append, Nat.zero_add] at hE3 ⊢)
  refine hK.out _ _ ⟨(atVm hE3 (by repeat (first | exact List.Mem.head _ | refine List.Mem.tail _ ?_)) (by simp [go_sem]) rfl), (atVm hE3 (by repeat (first | exact List.Mem.head _ | refine List.Mem.tail _ ?_)) (by simp [go_sem]) rfl), (atVm hE3 (by repeat (first | exact List.Mem.head _ | refine List.Mem.tail _ ?_)) (by simp [go_sem]) rfl), (atVm hE3 (by repeat (first | exact List.Mem.head _ | refine List.Mem.tail _ ?_)) (by simp [go_sem]) rfl)⟩ (fun hS => ?_)
  clear hK K
  try simp only [Act.put, sb, s0, sz]
  refine wpAnyH_ready (rs := [7]) (by kernel_rfl) (by simp) ?_
  refine (AllReadyH.cons (o := { dst := some 10, op := Go.Op.call { callee := Go.Callee.builtin Go.Builtin.append, args := #[Go.Operand.const (Go.Value.slice none 0 0), Go.Operand.tmp 9], argTypes := #[63, 63] }, type := 63, pos := "law.go:12", after := #[{ on := 6, ground := Go.Ground.data }, { on := 4, ground := Go.Ground.chain }], guard := none }) rfl (fun K hK => ?_) AllReadyH.nil)
  (refine step_appendG (hE3.nil 9 1) 0 rfl (by rfl) (by rfl) (by rfl) (by rfl) Try.underlying63 info_str (by decide) (m := vals.length) (news := vals.map strv) (hv _ (Ent.suf (hE3.nil 9 1) (by repeat (first | exact List.suffix_refl _ | refine List.IsSuffix.trans ?_ (List.suffix_cons _ _))))) (by simp) (strv_ones _) (by omega) (by omega) ?_; intro v2 vd w4 hE4; simp only [List.set_cons_zero, List.nil_append, Nat.zero_add] at hE4 ⊢)
  refine hK.out _ _ ⟨(atVm hE4 (by repeat (first | exact List.Mem.head _ | refine List.Mem.tail _ ?_)) (by simp [go_sem]) rfl), (atVm hE4 (by repeat (first | exact List.Mem.head _ | refine List.Mem.tail _ ?_)) (by simp [go_sem]) rfl), (atVm hE4 (by repeat (first | exact List.Mem.head _ | refine List.Mem.tail _ ?_)) (by simp [go_sem]) rfl), (atVm hE4 (by repeat (first | exact List.Mem.head _ | refine List.Mem.tail _ ?_)) (by simp [go_sem]) rfl)⟩ (fun hS => ?_)
  clear hK K
  try simp only [Act.put, sb, s0, sz]
  refine wpAnyH_ready (rs := [10]) (by kernel_rfl) (by simp) ?_
  refine (AllReadyH.cons (o := { dst := some 13, op := Go.Op.call { callee := Go.Callee.builtin Go.Builtin.append, args := #[Go.Operand.const (Go.Value.slice none 0 0), Go.Operand.tmp 12], argTypes := #[64, 64] }, type := 64, pos := "law.go:12", after := #[{ on := 9, ground := Go.Ground.data }, { on := 7, ground := Go.Ground.chain }], guard := none }) rfl (fun K hK => ?_) AllReadyH.nil)
  (refine step_appendG (hE4.nil 3 1) 0 rfl (by rfl) (by rfl) (by rfl) (by rfl) Try.underlying64 info_int (by decide) (m := kids.length) (news := kids.map intv) (hi _ (Ent.suf (hE4.nil 3 1) (by repeat (first | exact List.suffix_refl _ | refine List.IsSuffix.trans ?_ (List.suffix_cons _ _))))) (by simp) (intv_ones _) (by omega) (by omega) ?_; intro i2 id w5 hE5; simp only [List.set_cons_zero, List.nil_append, Nat.zero_add] at hE5 ⊢)
  refine hK.out _ _ ⟨(atVm hE5 (by repeat (first | exact List.Mem.head _ | refine List.Mem.tail _ ?_)) (by simp [go_sem]) rfl), (atVm hE5 (by repeat (first | exact List.Mem.head _ | refine List.Mem.tail _ ?_)) (by simp [go_sem]) rfl), (atVm hE5 (by repeat (first | exact List.Mem.head _ | refine List.Mem.tail _ ?_)) (by simp [go_sem]) rfl), (atVm hE5 (by repeat (first | exact List.Mem.head _ | refine List.Mem.tail _ ?_)) (by simp [go_sem]) rfl)⟩ (fun hS => ?_)
  clear hK K
  try simp only [Act.put, sb, s0, sz]
  refine takeW 11 ⟨some 14, .build 70 #[(0, .tmp 4), (1, .tmp 7), (2, .tmp 10), (3, .tmp 13)], 70, "law.go:12", #[⟨1, .data⟩, ⟨4, .data⟩, ⟨7, .data⟩, ⟨10, .data⟩], none⟩ ?_ (.inl ⟨by rfl, ?_⟩) hS ?_
  rotate_left
  · (intro w hSw; (try dsimp only at hSw); go_simp; (try with_reducible rfl))
  try simp only [Act.put, sb, s0, sz]
  refine wpAnyH_ready (rs := [12]) (by kernel_rfl) (by simp) ?_
  refine (AllReadyH.cons (o := { dst := none, op := Go.Op.store 70 (Go.Operand.tmp 2) (Go.Operand.tmp 14), type := 0, pos := "law.go:12", after := #[{ on := 11, ground := Go.Ground.data }, { on := 10, ground := Go.Ground.chain }, { on := 0, ground := Go.Ground.phase }, { on := 1, ground := Go.Ground.phase }, { on := 2, ground := Go.Ground.phase }, { on := 3, ground := Go.Ground.phase }, { on := 4, ground := Go.Ground.phase }, { on := 5, ground := Go.Ground.phase }, { on := 6, ground := Go.Ground.phase }, { on := 7, ground := Go.Ground.phase }, { on := 8, ground := Go.Ground.phase }, { on := 9, ground := Go.Ground.phase }, { on := 10, ground := Go.Ground.phase }, { on := 11, ground := Go.Ground.phase }], guard := none }) rfl (fun K hK => ?_) AllReadyH.nil)
  (refine step_storeW hE5 3 rfl rfl (by rfl) (by rfl) (xs := [.bool leaf, .slice k2 keys.length kd, .slice v2 vals.length vd, .slice i2 kids.length id]) (by rfl) Try.sizeOf70 rfl (by simp [Value.oneCell']) rfl ?_; intro w6 hE6; simp only [List.set_cons_zero, List.set_cons_succ] at hE6)
  refine hK.out _ _ ⟨(atVm hE6 (by repeat (first | exact List.Mem.head _ | refine List.Mem.tail _ ?_)) (by simp [go_sem]) rfl), (atVm hE6 (by repeat (first | exact List.Mem.head _ | refine List.Mem.tail _ ?_)) (by simp [go_sem]) rfl), (atVm hE6 (by repeat (first | exact List.Mem.head _ | refine List.Mem.tail _ ?_)) (by simp [go_sem]) rfl), (atVm hE6 (by repeat (first | exact List.Mem.head _ | refine List.Mem.tail _ ?_)) (by simp [go_sem]) rfl)⟩ (fun hS => ?_)
  clear hK K
  try simp only [Act.put, sb, s0, sz]
  refine wpAnyH_done (by kernel_rfl) ?_ _
  go_wp2
  refine bodyPost_ret (results_cellA rfl hE6 3 rfl rfl Try.isAgg70 Try.sizeOf70 rfl) rfl ?_
  refine ⟨_, rfl, k2, kd, v2, vd, i2, id, rfl, ?_⟩
  exact ((((hE6.erase 4).erase 3).front 2 rfl).front 2 rfl).front 1 rfl


set_option maxRecDepth 100000 in
set_option maxHeartbeats 8000000 in
attribute [-go_sem] Instr.loadAt in
theorem Same_node {leaf : Bool} {keys vals : List (List UInt8)} {kids : List Int} {ka va ia : Option Addr} {kc vc ic : Nat} (bk : keys.length ≤ 100000) (bv : vals.length ≤ 100000) (bi : kids.length ≤ 100000) {l : List HProp} {w : World} (hE : Ent l w) (hk : Knows l (reads (.slice ka keys.length kc) keys.length (keys.map strv))) (hv : Knows l (reads (.slice va vals.length vc) vals.length (vals.map strv))) (hi : Knows l (reads (.slice ia kids.length ic) kids.length (kids.map intv))) {k2 v2 i2 : Option Addr} {kd vd id : Nat} (hk2 : Knows l (reads (.slice k2 keys.length kd) keys.length (keys.map strv))) (hv2 : Knows l (reads (.slice v2 vals.length vd) vals.length (vals.map strv))) (hi2 : Knows l (reads (.slice i2 kids.length id) kids.length (kids.map intv))) :
    Calls Try.prog 40 #[.agg #[.bool leaf, .slice ka keys.length kc, .slice va vals.length vc, .slice ia kids.length ic], .agg #[.bool leaf, .slice k2 keys.length kd, .slice v2 vals.length vd, .slice i2 kids.length id]] w (Ret fun v w' => v = .bool true ∧ Ent l w') := by
  go_enter Try.func40, Try.ntmps40
  cases leaf
  all_goals
    go_wp2_with (first
      | go_skip
      | ((with_reducible (show Go.wpList _ _ _ (Go.Oper.mk _ (.box _ (.tmp 0)) _ _ _ _ :: _) _ _)); refine wpl_box hE rfl rfl rfl ?_; clear hE; intro b2 w hE; simp only [Act.eval, Act.put, List.setIfInBounds_toArray, List.set_cons_zero, List.set_cons_succ, getD_lit, List.getD_cons_succ, List.getD_cons_zero, Value.cells] at hE)
      | ((with_reducible (show Go.wpList _ _ _ (Go.Oper.mk _ (.box _ (.tmp 1)) _ _ _ _ :: _) _ _)); refine wpl_box hE rfl rfl rfl ?_; clear hE; intro b3 w hE; simp only [Act.eval, Act.put, List.setIfInBounds_toArray, List.set_cons_zero, List.set_cons_succ, getD_lit, List.getD_cons_succ, List.getD_cons_zero, Value.cells] at hE)
      | ((with_reducible (show Go.wpList _ _ _ (Go.Oper.mk _ (.load _ _) _ _ _ _ :: _) _ _)); refine wpl_load1 hE 0 rfl rfl rfl rfl (by simp [go_sem]) rfl ?_)
      | ((with_reducible (show Go.wpList _ _ _ (Go.Oper.mk _ (.load _ _) _ _ _ _ :: _) _ _)); refine wpl_load1 hE 1 rfl rfl rfl rfl (by simp [go_sem]) rfl ?_))
  · go_loopw [5] (fun i wr => CntRel keys.length (ndB b3 70 false keys vals kids k2 v2 i2 kd vd id :: ndB b2 70 false keys vals kids ka va ia kc vc ic :: l) i wr) (fun i _ => keys.length - (intOf i).toNat)
    case atStart => exact ⟨0, Nat.zero_le _, rfl, hE⟩
    case round =>
      clear hE
      obtain ⟨k, hkl, rfl, hE⟩ := hrel
      by_cases hlt : k < keys.length
      · obtain ⟨bb, bo, rfl, _⟩ := reads_map (hk _ (hE.suf (by repeat (first | exact List.suffix_refl _ | refine List.IsSuffix.trans ?_ (List.suffix_cons _ _))))) hlt
        obtain ⟨cb, co, rfl, _⟩ := reads_map (hk2 _ (hE.suf (by repeat (first | exact List.suffix_refl _ | refine List.IsSuffix.trans ?_ (List.suffix_cons _ _))))) hlt
        have La := SL.hid (fun W (hW : Ent l W) => show W.cell? ⟨bb, bo + k, none⟩ = some (strv keys[k]) from by
          obtain ⟨b', o', e, h⟩ := reads_map (hk _ hW) hlt
          cases e
          exact h)
        have Lb := SL.hid (fun W (hW : Ent l W) => show W.cell? ⟨cb, co + k, none⟩ = some (strv keys[k]) from by
          obtain ⟨b', o', e, h⟩ := reads_map (hk2 _ hW) hlt
          cases e
          exact h)
        generalize keys[k] = x at *
        go_wp2_with (first | go_skip | ((with_reducible (show Go.wpList _ _ _ (Go.Oper.mk _ (.load _ _) _ _ _ _ :: _) _ _)); refine wpl_load1 hE 1 rfl rfl rfl rfl (by simp [go_sem]) rfl ?_))
        refine wp_region_held_drew (S := (fun w' => ((Instr.loadAt 63 (.pointer (some ⟨b2, 1, none⟩))).run Try.prog w' = .ok (.slice (some ⟨bb, bo, none⟩) keys.length kc) w') ∧ ((Instr.loadAt 63 (.pointer (some ⟨b3, 1, none⟩))).run Try.prog w' = .ok (.slice (some ⟨cb, co, none⟩) keys.length kd) w') ∧ ((Instr.loadAt 9 (.pointer (some ⟨bb, bo + k, none⟩))).run Try.prog w' = .ok (.string ⟨x.toArray⟩) w') ∧ ((Instr.loadAt 9 (.pointer (some ⟨cb, co + k, none⟩))).run Try.prog w' = .ok (.string ⟨x.toArray⟩) w'))) (by kernel_rfl) ⟨(atVm hE.drew (by repeat (first | exact List.Mem.head _ | refine List.Mem.tail _ ?_)) (by simp [go_sem]) rfl), (atVm hE.drew (by repeat (first | exact List.Mem.head _ | refine List.Mem.tail _ ?_)) (by simp [go_sem]) rfl), (atCell (La.out _ (hE.drew.suf (by repeat (first | exact List.suffix_refl _ | refine List.IsSuffix.trans ?_ (List.suffix_cons _ _))))) (by simp [go_sem])), (atCell (Lb.out _ (hE.drew.suf (by repeat (first | exact List.suffix_refl _ | refine List.IsSuffix.trans ?_ (List.suffix_cons _ _))))) (by simp [go_sem]))⟩ (fun hS => ?_)
        refine takeW 0 ⟨some 47, .fieldAddr 70 (.tmp 2) 1, 0, "law.go:21", #[], none⟩ ?_ (.inl ⟨by rfl, ?_⟩) hS ?_
        rotate_left
        · (intro w hSw; (try dsimp only at hSw); go_simp; (try with_reducible rfl))
        try simp only [Act.put, sb, s0, sz]
        refine takeW 1 ⟨some 48, .load 63 (.tmp 47), 63, "law.go:21", #[⟨0, .data⟩], none⟩ ?_ (.inl ⟨by rfl, ?_⟩) hS ?_
        rotate_left
        · (intro w hSw; (try dsimp only at hSw); go_simp; (try with_reducible rfl))
        try simp only [Act.put, sb, s0, sz]
        refine takeW 2 ⟨some 49, .move (.tmp 5), 3, "law.go:21", #[], none⟩ ?_ (.inl ⟨by rfl, ?_⟩) hS ?_
        rotate_left
        · (intro w hSw; (try dsimp only at hSw); go_simp; (try with_reducible rfl))
        try simp only [Act.put, sb, s0, sz]
        refine takeW 3 ⟨some 50, .indexAddr 63 (.tmp 48) (.tmp 49), 0, "law.go:21", #[⟨1, .data⟩, ⟨2, .data⟩], none⟩ ?_ (.inl ⟨by rfl, ?_⟩) hS ?_
        rotate_left
        · (intro w hSw; (try dsimp only at hSw); go_simp; (try with_reducible rfl))
        try simp only [Act.put, sb, s0, sz]
        refine takeW 4 ⟨some 51, .load 9 (.tmp 50), 9, "law.go:21", #[⟨3, .data⟩], none⟩ ?_ (.inl ⟨by rfl, ?_⟩) hS ?_
        rotate_left
        · (intro w hSw; (try dsimp only at hSw); go_simp; (try with_reducible rfl))
        try simp only [Act.put, sb, s0, sz]
        refine takeW 5 ⟨some 52, .fieldAddr 70 (.tmp 3) 1, 0, "law.go:21", #[], none⟩ ?_ (.inl ⟨by rfl, ?_⟩) hS ?_
        rotate_left
        · (intro w hSw; (try dsimp only at hSw); go_simp; (try with_reducible rfl))
        try simp only [Act.put, sb, s0, sz]
        refine takeW 6 ⟨some 53, .load 63 (.tmp 52), 63, "law.go:21", #[⟨5, .data⟩], none⟩ ?_ (.inl ⟨by rfl, ?_⟩) hS ?_
        rotate_left
        · (intro w hSw; (try dsimp only at hSw); go_simp; (try with_reducible rfl))
        try simp only [Act.put, sb, s0, sz]
        refine takeW 7 ⟨some 54, .move (.tmp 5), 3, "law.go:21", #[], none⟩ ?_ (.inl ⟨by rfl, ?_⟩) hS ?_
        rotate_left
        · (intro w hSw; (try dsimp only at hSw); go_simp; (try with_reducible rfl))
        try simp only [Act.put, sb, s0, sz]
        refine takeW 8 ⟨some 55, .indexAddr 63 (.tmp 53) (.tmp 54), 0, "law.go:21", #[⟨6, .data⟩, ⟨7, .data⟩], none⟩ ?_ (.inl ⟨by rfl, ?_⟩) hS ?_
        rotate_left
        · (intro w hSw; (try dsimp only at hSw); go_simp; (try with_reducible rfl))
        try simp only [Act.put, sb, s0, sz]
        refine takeW 9 ⟨some 56, .load 9 (.tmp 55), 9, "law.go:21", #[⟨8, .data⟩], none⟩ ?_ (.inl ⟨by rfl, ?_⟩) hS ?_
        rotate_left
        · (intro w hSw; (try dsimp only at hSw); go_simp; (try with_reducible rfl))
        try simp only [Act.put, sb, s0, sz]
        refine takeW 10 ⟨some 57, .binOp .neq 9 (.tmp 51) (.tmp 56) 9, 4, "law.go:21", #[⟨4, .data⟩, ⟨9, .data⟩], none⟩ ?_ (.inl ⟨by rfl, ?_⟩) hS ?_
        rotate_left
        · (intro w hSw; (try dsimp only at hSw); go_simp; (try with_reducible rfl))
        try simp only [Act.put, sb, s0, sz]
        refine wpAnyH_done (by kernel_rfl) ?_ _
        go_wp2
        go_roundw
        case rel => exact ⟨k + 1, hlt, by first | rfl | simp, hE.drew⟩
        case measure => simp [intOf] <;> omega
      · have hkd : decide (k < keys.length) = false := decide_eq_false hlt
        clear hlt hkl
        go_wp2_with (first
          | go_skip
          | ((with_reducible (show Go.wpList _ _ _ (Go.Oper.mk _ (.load _ _) _ _ _ _ :: _) _ _)); refine wpl_load1 hE 1 rfl rfl rfl rfl (by simp [go_sem]) rfl ?_))
        go_loopw [6] (fun i wr => CntRel vals.length (ndB b3 70 false keys vals kids k2 v2 i2 kd vd id :: ndB b2 70 false keys vals kids ka va ia kc vc ic :: l) i wr) (fun i _ => vals.length - (intOf i).toNat)
        case atStart => exact ⟨0, Nat.zero_le _, rfl, hE⟩
        case round =>
          clear hE
          obtain ⟨k, hkl, rfl, hE⟩ := hrel
          by_cases hlt : k < vals.length
          · obtain ⟨bb, bo, rfl, _⟩ := reads_map (hv _ (hE.suf (by repeat (first | exact List.suffix_refl _ | refine List.IsSuffix.trans ?_ (List.suffix_cons _ _))))) hlt
            obtain ⟨cb, co, rfl, _⟩ := reads_map (hv2 _ (hE.suf (by repeat (first | exact List.suffix_refl _ | refine List.IsSuffix.trans ?_ (List.suffix_cons _ _))))) hlt
            have La := SL.hid (fun W (hW : Ent l W) => show W.cell? ⟨bb, bo + k, none⟩ = some (strv vals[k]) from by
              obtain ⟨b', o', e, h⟩ := reads_map (hv _ hW) hlt
              cases e
              exact h)
            have Lb := SL.hid (fun W (hW : Ent l W) => show W.cell? ⟨cb, co + k, none⟩ = some (strv vals[k]) from by
              obtain ⟨b', o', e, h⟩ := reads_map (hv2 _ hW) hlt
              cases e
              exact h)
            generalize vals[k] = x at *
            go_wp2_with (first | go_skip | ((with_reducible (show Go.wpList _ _ _ (Go.Oper.mk _ (.load _ _) _ _ _ _ :: _) _ _)); refine wpl_load1 hE 1 rfl rfl rfl rfl (by simp [go_sem]) rfl ?_))
            refine wp_region_held_drew (S := (fun w' => ((Instr.loadAt 63 (.pointer (some ⟨b2, 2, none⟩))).run Try.prog w' = .ok (.slice (some ⟨bb, bo, none⟩) vals.length vc) w') ∧ ((Instr.loadAt 63 (.pointer (some ⟨b3, 2, none⟩))).run Try.prog w' = .ok (.slice (some ⟨cb, co, none⟩) vals.length vd) w') ∧ ((Instr.loadAt 9 (.pointer (some ⟨bb, bo + k, none⟩))).run Try.prog w' = .ok (.string ⟨x.toArray⟩) w') ∧ ((Instr.loadAt 9 (.pointer (some ⟨cb, co + k, none⟩))).run Try.prog w' = .ok (.string ⟨x.toArray⟩) w'))) (by kernel_rfl) ⟨(atVm hE.drew (by repeat (first | exact List.Mem.head _ | refine List.Mem.tail _ ?_)) (by simp [go_sem]) rfl), (atVm hE.drew (by repeat (first | exact List.Mem.head _ | refine List.Mem.tail _ ?_)) (by simp [go_sem]) rfl), (atCell (La.out _ (hE.drew.suf (by repeat (first | exact List.suffix_refl _ | refine List.IsSuffix.trans ?_ (List.suffix_cons _ _))))) (by simp [go_sem])), (atCell (Lb.out _ (hE.drew.suf (by repeat (first | exact List.suffix_refl _ | refine List.IsSuffix.trans ?_ (List.suffix_cons _ _))))) (by simp [go_sem]))⟩ (fun hS => ?_)
            refine takeW 0 ⟨some 65, .fieldAddr 70 (.tmp 2) 2, 0, "law.go:26", #[], none⟩ ?_ (.inl ⟨by rfl, ?_⟩) hS ?_
            rotate_left
            · (intro w hSw; (try dsimp only at hSw); go_simp; (try with_reducible rfl))
            try simp only [Act.put, sb, s0, sz]
            refine takeW 1 ⟨some 66, .load 63 (.tmp 65), 63, "law.go:26", #[⟨0, .data⟩], none⟩ ?_ (.inl ⟨by rfl, ?_⟩) hS ?_
            rotate_left
            · (intro w hSw; (try dsimp only at hSw); go_simp; (try with_reducible rfl))
            try simp only [Act.put, sb, s0, sz]
            refine takeW 2 ⟨some 67, .move (.tmp 6), 3, "law.go:26", #[], none⟩ ?_ (.inl ⟨by rfl, ?_⟩) hS ?_
            rotate_left
            · (intro w hSw; (try dsimp only at hSw); go_simp; (try with_reducible rfl))
            try simp only [Act.put, sb, s0, sz]
            refine takeW 3 ⟨some 68, .indexAddr 63 (.tmp 66) (.tmp 67), 0, "law.go:26", #[⟨1, .data⟩, ⟨2, .data⟩], none⟩ ?_ (.inl ⟨by rfl, ?_⟩) hS ?_
            rotate_left
            · (intro w hSw; (try dsimp only at hSw); go_simp; (try with_reducible rfl))
            try simp only [Act.put, sb, s0, sz]
            refine takeW 4 ⟨some 69, .load 9 (.tmp 68), 9, "law.go:26", #[⟨3, .data⟩], none⟩ ?_ (.inl ⟨by rfl, ?_⟩) hS ?_
            rotate_left
            · (intro w hSw; (try dsimp only at hSw); go_simp; (try with_reducible rfl))
            try simp only [Act.put, sb, s0, sz]
            refine takeW 5 ⟨some 70, .fieldAddr 70 (.tmp 3) 2, 0, "law.go:26", #[], none⟩ ?_ (.inl ⟨by rfl, ?_⟩) hS ?_
            rotate_left
            · (intro w hSw; (try dsimp only at hSw); go_simp; (try with_reducible rfl))
            try simp only [Act.put, sb, s0, sz]
            refine takeW 6 ⟨some 71, .load 63 (.tmp 70), 63, "law.go:26", #[⟨5, .data⟩], none⟩ ?_ (.inl ⟨by rfl, ?_⟩) hS ?_
            rotate_left
            · (intro w hSw; (try dsimp only at hSw); go_simp; (try with_reducible rfl))
            try simp only [Act.put, sb, s0, sz]
            refine takeW 7 ⟨some 72, .move (.tmp 6), 3, "law.go:26", #[], none⟩ ?_ (.inl ⟨by rfl, ?_⟩) hS ?_
            rotate_left
            · (intro w hSw; (try dsimp only at hSw); go_simp; (try with_reducible rfl))
            try simp only [Act.put, sb, s0, sz]
            refine takeW 8 ⟨some 73, .indexAddr 63 (.tmp 71) (.tmp 72), 0, "law.go:26", #[⟨6, .data⟩, ⟨7, .data⟩], none⟩ ?_ (.inl ⟨by rfl, ?_⟩) hS ?_
            rotate_left
            · (intro w hSw; (try dsimp only at hSw); go_simp; (try with_reducible rfl))
            try simp only [Act.put, sb, s0, sz]
            refine takeW 9 ⟨some 74, .load 9 (.tmp 73), 9, "law.go:26", #[⟨8, .data⟩], none⟩ ?_ (.inl ⟨by rfl, ?_⟩) hS ?_
            rotate_left
            · (intro w hSw; (try dsimp only at hSw); go_simp; (try with_reducible rfl))
            try simp only [Act.put, sb, s0, sz]
            refine takeW 10 ⟨some 75, .binOp .neq 9 (.tmp 69) (.tmp 74) 9, 4, "law.go:26", #[⟨4, .data⟩, ⟨9, .data⟩], none⟩ ?_ (.inl ⟨by rfl, ?_⟩) hS ?_
            rotate_left
            · (intro w hSw; (try dsimp only at hSw); go_simp; (try with_reducible rfl))
            try simp only [Act.put, sb, s0, sz]
            refine wpAnyH_done (by kernel_rfl) ?_ _
            go_wp2
            go_roundw
            case rel => exact ⟨k + 1, hlt, by first | rfl | simp, hE.drew⟩
            case measure => simp [intOf] <;> omega
          · have hkd : decide (k < vals.length) = false := decide_eq_false hlt
            clear hlt hkl
            go_wp2_with (first
              | go_skip
              | ((with_reducible (show Go.wpList _ _ _ (Go.Oper.mk _ (.load _ _) _ _ _ _ :: _) _ _)); refine wpl_load1 hE 1 rfl rfl rfl rfl (by simp [go_sem]) rfl ?_))
            go_loopw [7] (fun i wr => CntRel kids.length (ndB b3 70 false keys vals kids k2 v2 i2 kd vd id :: ndB b2 70 false keys vals kids ka va ia kc vc ic :: l) i wr) (fun i _ => kids.length - (intOf i).toNat)
            case atStart => exact ⟨0, Nat.zero_le _, rfl, hE⟩
            case round =>
              clear hE
              obtain ⟨k, hkl, rfl, hE⟩ := hrel
              by_cases hlt : k < kids.length
              · obtain ⟨bb, bo, rfl, _⟩ := reads_map (hi _ (hE.suf (by repeat (first | exact List.suffix_refl _ | refine List.IsSuffix.trans ?_ (List.suffix_cons _ _))))) hlt
                obtain ⟨cb, co, rfl, _⟩ := reads_map (hi2 _ (hE.suf (by repeat (first | exact List.suffix_refl _ | refine List.IsSuffix.trans ?_ (List.suffix_cons _ _))))) hlt
                have La := SL.hid (fun W (hW : Ent l W) => show W.cell? ⟨bb, bo + k, none⟩ = some (intv kids[k]) from by
                  obtain ⟨b', o', e, h⟩ := reads_map (hi _ hW) hlt
                  cases e
                  exact h)
                have Lb := SL.hid (fun W (hW : Ent l W) => show W.cell? ⟨cb, co + k, none⟩ = some (intv kids[k]) from by
                  obtain ⟨b', o', e, h⟩ := reads_map (hi2 _ hW) hlt
                  cases e
                  exact h)
                generalize kids[k] = x at *
                go_wp2_with (first | go_skip | ((with_reducible (show Go.wpList _ _ _ (Go.Oper.mk _ (.load _ _) _ _ _ _ :: _) _ _)); refine wpl_load1 hE 1 rfl rfl rfl rfl (by simp [go_sem]) rfl ?_))
                refine wp_region_held_drew (S := (fun w' => ((Instr.loadAt 64 (.pointer (some ⟨b2, 3, none⟩))).run Try.prog w' = .ok (.slice (some ⟨bb, bo, none⟩) kids.length ic) w') ∧ ((Instr.loadAt 64 (.pointer (some ⟨b3, 3, none⟩))).run Try.prog w' = .ok (.slice (some ⟨cb, co, none⟩) kids.length id) w') ∧ ((Instr.loadAt 3 (.pointer (some ⟨bb, bo + k, none⟩))).run Try.prog w' = .ok (.int .i64 x) w') ∧ ((Instr.loadAt 3 (.pointer (some ⟨cb, co + k, none⟩))).run Try.prog w' = .ok (.int .i64 x) w'))) (by kernel_rfl) ⟨(atVm hE.drew (by repeat (first | exact List.Mem.head _ | refine List.Mem.tail _ ?_)) (by simp [go_sem]) rfl), (atVm hE.drew (by repeat (first | exact List.Mem.head _ | refine List.Mem.tail _ ?_)) (by simp [go_sem]) rfl), (atCell (La.out _ (hE.drew.suf (by repeat (first | exact List.suffix_refl _ | refine List.IsSuffix.trans ?_ (List.suffix_cons _ _))))) (by simp [go_sem])), (atCell (Lb.out _ (hE.drew.suf (by repeat (first | exact List.suffix_refl _ | refine List.IsSuffix.trans ?_ (List.suffix_cons _ _))))) (by simp [go_sem]))⟩ (fun hS => ?_)
                refine takeW 0 ⟨some 83, .fieldAddr 70 (.tmp 2) 3, 0, "law.go:31", #[], none⟩ ?_ (.inl ⟨by rfl, ?_⟩) hS ?_
                rotate_left
                · (intro w hSw; (try dsimp only at hSw); go_simp; (try with_reducible rfl))
                try simp only [Act.put, sb, s0, sz]
                refine takeW 1 ⟨some 84, .load 64 (.tmp 83), 64, "law.go:31", #[⟨0, .data⟩], none⟩ ?_ (.inl ⟨by rfl, ?_⟩) hS ?_
                rotate_left
                · (intro w hSw; (try dsimp only at hSw); go_simp; (try with_reducible rfl))
                try simp only [Act.put, sb, s0, sz]
                refine takeW 2 ⟨some 85, .move (.tmp 7), 3, "law.go:31", #[], none⟩ ?_ (.inl ⟨by rfl, ?_⟩) hS ?_
                rotate_left
                · (intro w hSw; (try dsimp only at hSw); go_simp; (try with_reducible rfl))
                try simp only [Act.put, sb, s0, sz]
                refine takeW 3 ⟨some 86, .indexAddr 64 (.tmp 84) (.tmp 85), 0, "law.go:31", #[⟨1, .data⟩, ⟨2, .data⟩], none⟩ ?_ (.inl ⟨by rfl, ?_⟩) hS ?_
                rotate_left
                · (intro w hSw; (try dsimp only at hSw); go_simp; (try with_reducible rfl))
                try simp only [Act.put, sb, s0, sz]
                refine takeW 4 ⟨some 87, .load 3 (.tmp 86), 3, "law.go:31", #[⟨3, .data⟩], none⟩ ?_ (.inl ⟨by rfl, ?_⟩) hS ?_
                rotate_left
                · (intro w hSw; (try dsimp only at hSw); go_simp; (try with_reducible rfl))
                try simp only [Act.put, sb, s0, sz]
                refine takeW 5 ⟨some 88, .fieldAddr 70 (.tmp 3) 3, 0, "law.go:31", #[], none⟩ ?_ (.inl ⟨by rfl, ?_⟩) hS ?_
                rotate_left
                · (intro w hSw; (try dsimp only at hSw); go_simp; (try with_reducible rfl))
                try simp only [Act.put, sb, s0, sz]
                refine takeW 6 ⟨some 89, .load 64 (.tmp 88), 64, "law.go:31", #[⟨5, .data⟩], none⟩ ?_ (.inl ⟨by rfl, ?_⟩) hS ?_
                rotate_left
                · (intro w hSw; (try dsimp only at hSw); go_simp; (try with_reducible rfl))
                try simp only [Act.put, sb, s0, sz]
                refine takeW 7 ⟨some 90, .move (.tmp 7), 3, "law.go:31", #[], none⟩ ?_ (.inl ⟨by rfl, ?_⟩) hS ?_
                rotate_left
                · (intro w hSw; (try dsimp only at hSw); go_simp; (try with_reducible rfl))
                try simp only [Act.put, sb, s0, sz]
                refine takeW 8 ⟨some 91, .indexAddr 64 (.tmp 89) (.tmp 90), 0, "law.go:31", #[⟨6, .data⟩, ⟨7, .data⟩], none⟩ ?_ (.inl ⟨by rfl, ?_⟩) hS ?_
                rotate_left
                · (intro w hSw; (try dsimp only at hSw); go_simp; (try with_reducible rfl))
                try simp only [Act.put, sb, s0, sz]
                refine takeW 9 ⟨some 92, .load 3 (.tmp 91), 3, "law.go:31", #[⟨8, .data⟩], none⟩ ?_ (.inl ⟨by rfl, ?_⟩) hS ?_
                rotate_left
                · (intro w hSw; (try dsimp only at hSw); go_simp; (try with_reducible rfl))
                try simp only [Act.put, sb, s0, sz]
                refine takeW 10 ⟨some 93, .binOp .neq 3 (.tmp 87) (.tmp 92) 3, 4, "law.go:31", #[⟨4, .data⟩, ⟨9, .data⟩], none⟩ ?_ (.inl ⟨by rfl, ?_⟩) hS ?_
                rotate_left
                · (intro w hSw; (try dsimp only at hSw); go_simp; (try with_reducible rfl))
                try simp only [Act.put, sb, s0, sz]
                refine wpAnyH_done (by kernel_rfl) ?_ _
                go_wp2
                go_roundw
                case rel => exact ⟨k + 1, hlt, by first | rfl | simp, hE.drew⟩
                case measure => simp [intOf] <;> omega
              · have hkd : decide (k < kids.length) = false := decide_eq_false hlt
                clear hlt hkl
                go_wp2_with (first
                  | go_skip
                  | ((with_reducible (show Go.wpList _ _ _ (Go.Oper.mk _ (.load _ _) _ _ _ _ :: _) _ _)); refine wpl_load1 hE 1 rfl rfl rfl rfl (by simp [go_sem]) rfl ?_))
                go_ret
                exact ⟨_, rfl, rfl, hE.tail.tail⟩
  · go_loopw [5] (fun i wr => CntRel keys.length (ndB b3 70 true keys vals kids k2 v2 i2 kd vd id :: ndB b2 70 true keys vals kids ka va ia kc vc ic :: l) i wr) (fun i _ => keys.length - (intOf i).toNat)
    case atStart => exact ⟨0, Nat.zero_le _, rfl, hE⟩
    case round =>
      clear hE
      obtain ⟨k, hkl, rfl, hE⟩ := hrel
      by_cases hlt : k < keys.length
      · obtain ⟨bb, bo, rfl, _⟩ := reads_map (hk _ (hE.suf (by repeat (first | exact List.suffix_refl _ | refine List.IsSuffix.trans ?_ (List.suffix_cons _ _))))) hlt
        obtain ⟨cb, co, rfl, _⟩ := reads_map (hk2 _ (hE.suf (by repeat (first | exact List.suffix_refl _ | refine List.IsSuffix.trans ?_ (List.suffix_cons _ _))))) hlt
        have La := SL.hid (fun W (hW : Ent l W) => show W.cell? ⟨bb, bo + k, none⟩ = some (strv keys[k]) from by
          obtain ⟨b', o', e, h⟩ := reads_map (hk _ hW) hlt
          cases e
          exact h)
        have Lb := SL.hid (fun W (hW : Ent l W) => show W.cell? ⟨cb, co + k, none⟩ = some (strv keys[k]) from by
          obtain ⟨b', o', e, h⟩ := reads_map (hk2 _ hW) hlt
          cases e
          exact h)
        generalize keys[k] = x at *
        go_wp2_with (first | go_skip | ((with_reducible (show Go.wpList _ _ _ (Go.Oper.mk _ (.load _ _) _ _ _ _ :: _) _ _)); refine wpl_load1 hE 1 rfl rfl rfl rfl (by simp [go_sem]) rfl ?_))
        refine wp_region_held_drew (S := (fun w' => ((Instr.loadAt 63 (.pointer (some ⟨b2, 1, none⟩))).run Try.prog w' = .ok (.slice (some ⟨bb, bo, none⟩) keys.length kc) w') ∧ ((Instr.loadAt 63 (.pointer (some ⟨b3, 1, none⟩))).run Try.prog w' = .ok (.slice (some ⟨cb, co, none⟩) keys.length kd) w') ∧ ((Instr.loadAt 9 (.pointer (some ⟨bb, bo + k, none⟩))).run Try.prog w' = .ok (.string ⟨x.toArray⟩) w') ∧ ((Instr.loadAt 9 (.pointer (some ⟨cb, co + k, none⟩))).run Try.prog w' = .ok (.string ⟨x.toArray⟩) w'))) (by kernel_rfl) ⟨(atVm hE.drew (by repeat (first | exact List.Mem.head _ | refine List.Mem.tail _ ?_)) (by simp [go_sem]) rfl), (atVm hE.drew (by repeat (first | exact List.Mem.head _ | refine List.Mem.tail _ ?_)) (by simp [go_sem]) rfl), (atCell (La.out _ (hE.drew.suf (by repeat (first | exact List.suffix_refl _ | refine List.IsSuffix.trans ?_ (List.suffix_cons _ _))))) (by simp [go_sem])), (atCell (Lb.out _ (hE.drew.suf (by repeat (first | exact List.suffix_refl _ | refine List.IsSuffix.trans ?_ (List.suffix_cons _ _))))) (by simp [go_sem]))⟩ (fun hS => ?_)
        refine takeW 0 ⟨some 47, .fieldAddr 70 (.tmp 2) 1, 0, "law.go:21", #[], none⟩ ?_ (.inl ⟨by rfl, ?_⟩) hS ?_
        rotate_left
        · (intro w hSw; (try dsimp only at hSw); go_simp; (try with_reducible rfl))
        try simp only [Act.put, sb, s0, sz]
        refine takeW 1 ⟨some 48, .load 63 (.tmp 47), 63, "law.go:21", #[⟨0, .data⟩], none⟩ ?_ (.inl ⟨by rfl, ?_⟩) hS ?_
        rotate_left
        · (intro w hSw; (try dsimp only at hSw); go_simp; (try with_reducible rfl))
        try simp only [Act.put, sb, s0, sz]
        refine takeW 2 ⟨some 49, .move (.tmp 5), 3, "law.go:21", #[], none⟩ ?_ (.inl ⟨by rfl, ?_⟩) hS ?_
        rotate_left
        · (intro w hSw; (try dsimp only at hSw); go_simp; (try with_reducible rfl))
        try simp only [Act.put, sb, s0, sz]
        refine takeW 3 ⟨some 50, .indexAddr 63 (.tmp 48) (.tmp 49), 0, "law.go:21", #[⟨1, .data⟩, ⟨2, .data⟩], none⟩ ?_ (.inl ⟨by rfl, ?_⟩) hS ?_
        rotate_left
        · (intro w hSw; (try dsimp only at hSw); go_simp; (try with_reducible rfl))
        try simp only [Act.put, sb, s0, sz]
        refine takeW 4 ⟨some 51, .load 9 (.tmp 50), 9, "law.go:21", #[⟨3, .data⟩], none⟩ ?_ (.inl ⟨by rfl, ?_⟩) hS ?_
        rotate_left
        · (intro w hSw; (try dsimp only at hSw); go_simp; (try with_reducible rfl))
        try simp only [Act.put, sb, s0, sz]
        refine takeW 5 ⟨some 52, .fieldAddr 70 (.tmp 3) 1, 0, "law.go:21", #[], none⟩ ?_ (.inl ⟨by rfl, ?_⟩) hS ?_
        rotate_left
        · (intro w hSw; (try dsimp only at hSw); go_simp; (try with_reducible rfl))
        try simp only [Act.put, sb, s0, sz]
        refine takeW 6 ⟨some 53, .load 63 (.tmp 52), 63, "law.go:21", #[⟨5, .data⟩], none⟩ ?_ (.inl ⟨by rfl, ?_⟩) hS ?_
        rotate_left
        · (intro w hSw; (try dsimp only at hSw); go_simp; (try with_reducible rfl))
        try simp only [Act.put, sb, s0, sz]
        refine takeW 7 ⟨some 54, .move (.tmp 5), 3, "law.go:21", #[], none⟩ ?_ (.inl ⟨by rfl, ?_⟩) hS ?_
        rotate_left
        · (intro w hSw; (try dsimp only at hSw); go_simp; (try with_reducible rfl))
        try simp only [Act.put, sb, s0, sz]
        refine takeW 8 ⟨some 55, .indexAddr 63 (.tmp 53) (.tmp 54), 0, "law.go:21", #[⟨6, .data⟩, ⟨7, .data⟩], none⟩ ?_ (.inl ⟨by rfl, ?_⟩) hS ?_
        rotate_left
        · (intro w hSw; (try dsimp only at hSw); go_simp; (try with_reducible rfl))
        try simp only [Act.put, sb, s0, sz]
        refine takeW 9 ⟨some 56, .load 9 (.tmp 55), 9, "law.go:21", #[⟨8, .data⟩], none⟩ ?_ (.inl ⟨by rfl, ?_⟩) hS ?_
        rotate_left
        · (intro w hSw; (try dsimp only at hSw); go_simp; (try with_reducible rfl))
        try simp only [Act.put, sb, s0, sz]
        refine takeW 10 ⟨some 57, .binOp .neq 9 (.tmp 51) (.tmp 56) 9, 4, "law.go:21", #[⟨4, .data⟩, ⟨9, .data⟩], none⟩ ?_ (.inl ⟨by rfl, ?_⟩) hS ?_
        rotate_left
        · (intro w hSw; (try dsimp only at hSw); go_simp; (try with_reducible rfl))
        try simp only [Act.put, sb, s0, sz]
        refine wpAnyH_done (by kernel_rfl) ?_ _
        go_wp2
        go_roundw
        case rel => exact ⟨k + 1, hlt, by first | rfl | simp, hE.drew⟩
        case measure => simp [intOf] <;> omega
      · have hkd : decide (k < keys.length) = false := decide_eq_false hlt
        clear hlt hkl
        go_wp2_with (first
          | go_skip
          | ((with_reducible (show Go.wpList _ _ _ (Go.Oper.mk _ (.load _ _) _ _ _ _ :: _) _ _)); refine wpl_load1 hE 1 rfl rfl rfl rfl (by simp [go_sem]) rfl ?_))
        go_loopw [6] (fun i wr => CntRel vals.length (ndB b3 70 true keys vals kids k2 v2 i2 kd vd id :: ndB b2 70 true keys vals kids ka va ia kc vc ic :: l) i wr) (fun i _ => vals.length - (intOf i).toNat)
        case atStart => exact ⟨0, Nat.zero_le _, rfl, hE⟩
        case round =>
          clear hE
          obtain ⟨k, hkl, rfl, hE⟩ := hrel
          by_cases hlt : k < vals.length
          · obtain ⟨bb, bo, rfl, _⟩ := reads_map (hv _ (hE.suf (by repeat (first | exact List.suffix_refl _ | refine List.IsSuffix.trans ?_ (List.suffix_cons _ _))))) hlt
            obtain ⟨cb, co, rfl, _⟩ := reads_map (hv2 _ (hE.suf (by repeat (first | exact List.suffix_refl _ | refine List.IsSuffix.trans ?_ (List.suffix_cons _ _))))) hlt
            have La := SL.hid (fun W (hW : Ent l W) => show W.cell? ⟨bb, bo + k, none⟩ = some (strv vals[k]) from by
              obtain ⟨b', o', e, h⟩ := reads_map (hv _ hW) hlt
              cases e
              exact h)
            have Lb := SL.hid (fun W (hW : Ent l W) => show W.cell? ⟨cb, co + k, none⟩ = some (strv vals[k]) from by
              obtain ⟨b', o', e, h⟩ := reads_map (hv2 _ hW) hlt
              cases e
              exact h)
            generalize vals[k] = x at *
            go_wp2_with (first | go_skip | ((with_reducible (show Go.wpList _ _ _ (Go.Oper.mk _ (.load _ _) _ _ _ _ :: _) _ _)); refine wpl_load1 hE 1 rfl rfl rfl rfl (by simp [go_sem]) rfl ?_))
            refine wp_region_held_drew (S := (fun w' => ((Instr.loadAt 63 (.pointer (some ⟨b2, 2, none⟩))).run Try.prog w' = .ok (.slice (some ⟨bb, bo, none⟩) vals.length vc) w') ∧ ((Instr.loadAt 63 (.pointer (some ⟨b3, 2, none⟩))).run Try.prog w' = .ok (.slice (some ⟨cb, co, none⟩) vals.length vd) w') ∧ ((Instr.loadAt 9 (.pointer (some ⟨bb, bo + k, none⟩))).run Try.prog w' = .ok (.string ⟨x.toArray⟩) w') ∧ ((Instr.loadAt 9 (.pointer (some ⟨cb, co + k, none⟩))).run Try.prog w' = .ok (.string ⟨x.toArray⟩) w'))) (by kernel_rfl) ⟨(atVm hE.drew (by repeat (first | exact List.Mem.head _ | refine List.Mem.tail _ ?_)) (by simp [go_sem]) rfl), (atVm hE.drew (by repeat (first | exact List.Mem.head _ | refine List.Mem.tail _ ?_)) (by simp [go_sem]) rfl), (atCell (La.out _ (hE.drew.suf (by repeat (first | exact List.suffix_refl _ | refine List.IsSuffix.trans ?_ (List.suffix_cons _ _))))) (by simp [go_sem])), (atCell (Lb.out _ (hE.drew.suf (by repeat (first | exact List.suffix_refl _ | refine List.IsSuffix.trans ?_ (List.suffix_cons _ _))))) (by simp [go_sem]))⟩ (fun hS => ?_)
            refine takeW 0 ⟨some 65, .fieldAddr 70 (.tmp 2) 2, 0, "law.go:26", #[], none⟩ ?_ (.inl ⟨by rfl, ?_⟩) hS ?_
            rotate_left
            · (intro w hSw; (try dsimp only at hSw); go_simp; (try with_reducible rfl))
            try simp only [Act.put, sb, s0, sz]
            refine takeW 1 ⟨some 66, .load 63 (.tmp 65), 63, "law.go:26", #[⟨0, .data⟩], none⟩ ?_ (.inl ⟨by rfl, ?_⟩) hS ?_
            rotate_left
            · (intro w hSw; (try dsimp only at hSw); go_simp; (try with_reducible rfl))
            try simp only [Act.put, sb, s0, sz]
            refine takeW 2 ⟨some 67, .move (.tmp 6), 3, "law.go:26", #[], none⟩ ?_ (.inl ⟨by rfl, ?_⟩) hS ?_
            rotate_left
            · (intro w hSw; (try dsimp only at hSw); go_simp; (try with_reducible rfl))
            try simp only [Act.put, sb, s0, sz]
            refine takeW 3 ⟨some 68, .indexAddr 63 (.tmp 66) (.tmp 67), 0, "law.go:26", #[⟨1, .data⟩, ⟨2, .data⟩], none⟩ ?_ (.inl ⟨by rfl, ?_⟩) hS ?_
            rotate_left
            · (intro w hSw; (try dsimp only at hSw); go_simp; (try with_reducible rfl))
            try simp only [Act.put, sb, s0, sz]
            refine takeW 4 ⟨some 69, .load 9 (.tmp 68), 9, "law.go:26", #[⟨3, .data⟩], none⟩ ?_ (.inl ⟨by rfl, ?_⟩) hS ?_
            rotate_left
            · (intro w hSw; (try dsimp only at hSw); go_simp; (try with_reducible rfl))
            try simp only [Act.put, sb, s0, sz]
            refine takeW 5 ⟨some 70, .fieldAddr 70 (.tmp 3) 2, 0, "law.go:26", #[], none⟩ ?_ (.inl ⟨by rfl, ?_⟩) hS ?_
            rotate_left
            · (intro w hSw; (try dsimp only at hSw); go_simp; (try with_reducible rfl))
            try simp only [Act.put, sb, s0, sz]
            refine takeW 6 ⟨some 71, .load 63 (.tmp 70), 63, "law.go:26", #[⟨5, .data⟩], none⟩ ?_ (.inl ⟨by rfl, ?_⟩) hS ?_
            rotate_left
            · (intro w hSw; (try dsimp only at hSw); go_simp; (try with_reducible rfl))
            try simp only [Act.put, sb, s0, sz]
            refine takeW 7 ⟨some 72, .move (.tmp 6), 3, "law.go:26", #[], none⟩ ?_ (.inl ⟨by rfl, ?_⟩) hS ?_
            rotate_left
            · (intro w hSw; (try dsimp only at hSw); go_simp; (try with_reducible rfl))
            try simp only [Act.put, sb, s0, sz]
            refine takeW 8 ⟨some 73, .indexAddr 63 (.tmp 71) (.tmp 72), 0, "law.go:26", #[⟨6, .data⟩, ⟨7, .data⟩], none⟩ ?_ (.inl ⟨by rfl, ?_⟩) hS ?_
            rotate_left
            · (intro w hSw; (try dsimp only at hSw); go_simp; (try with_reducible rfl))
            try simp only [Act.put, sb, s0, sz]
            refine takeW 9 ⟨some 74, .load 9 (.tmp 73), 9, "law.go:26", #[⟨8, .data⟩], none⟩ ?_ (.inl ⟨by rfl, ?_⟩) hS ?_
            rotate_left
            · (intro w hSw; (try dsimp only at hSw); go_simp; (try with_reducible rfl))
            try simp only [Act.put, sb, s0, sz]
            refine takeW 10 ⟨some 75, .binOp .neq 9 (.tmp 69) (.tmp 74) 9, 4, "law.go:26", #[⟨4, .data⟩, ⟨9, .data⟩], none⟩ ?_ (.inl ⟨by rfl, ?_⟩) hS ?_
            rotate_left
            · (intro w hSw; (try dsimp only at hSw); go_simp; (try with_reducible rfl))
            try simp only [Act.put, sb, s0, sz]
            refine wpAnyH_done (by kernel_rfl) ?_ _
            go_wp2
            go_roundw
            case rel => exact ⟨k + 1, hlt, by first | rfl | simp, hE.drew⟩
            case measure => simp [intOf] <;> omega
          · have hkd : decide (k < vals.length) = false := decide_eq_false hlt
            clear hlt hkl
            go_wp2_with (first
              | go_skip
              | ((with_reducible (show Go.wpList _ _ _ (Go.Oper.mk _ (.load _ _) _ _ _ _ :: _) _ _)); refine wpl_load1 hE 1 rfl rfl rfl rfl (by simp [go_sem]) rfl ?_))
            go_loopw [7] (fun i wr => CntRel kids.length (ndB b3 70 true keys vals kids k2 v2 i2 kd vd id :: ndB b2 70 true keys vals kids ka va ia kc vc ic :: l) i wr) (fun i _ => kids.length - (intOf i).toNat)
            case atStart => exact ⟨0, Nat.zero_le _, rfl, hE⟩
            case round =>
              clear hE
              obtain ⟨k, hkl, rfl, hE⟩ := hrel
              by_cases hlt : k < kids.length
              · obtain ⟨bb, bo, rfl, _⟩ := reads_map (hi _ (hE.suf (by repeat (first | exact List.suffix_refl _ | refine List.IsSuffix.trans ?_ (List.suffix_cons _ _))))) hlt
                obtain ⟨cb, co, rfl, _⟩ := reads_map (hi2 _ (hE.suf (by repeat (first | exact List.suffix_refl _ | refine List.IsSuffix.trans ?_ (List.suffix_cons _ _))))) hlt
                have La := SL.hid (fun W (hW : Ent l W) => show W.cell? ⟨bb, bo + k, none⟩ = some (intv kids[k]) from by
                  obtain ⟨b', o', e, h⟩ := reads_map (hi _ hW) hlt
                  cases e
                  exact h)
                have Lb := SL.hid (fun W (hW : Ent l W) => show W.cell? ⟨cb, co + k, none⟩ = some (intv kids[k]) from by
                  obtain ⟨b', o', e, h⟩ := reads_map (hi2 _ hW) hlt
                  cases e
                  exact h)
                generalize kids[k] = x at *
                go_wp2_with (first | go_skip | ((with_reducible (show Go.wpList _ _ _ (Go.Oper.mk _ (.load _ _) _ _ _ _ :: _) _ _)); refine wpl_load1 hE 1 rfl rfl rfl rfl (by simp [go_sem]) rfl ?_))
                refine wp_region_held_drew (S := (fun w' => ((Instr.loadAt 64 (.pointer (some ⟨b2, 3, none⟩))).run Try.prog w' = .ok (.slice (some ⟨bb, bo, none⟩) kids.length ic) w') ∧ ((Instr.loadAt 64 (.pointer (some ⟨b3, 3, none⟩))).run Try.prog w' = .ok (.slice (some ⟨cb, co, none⟩) kids.length id) w') ∧ ((Instr.loadAt 3 (.pointer (some ⟨bb, bo + k, none⟩))).run Try.prog w' = .ok (.int .i64 x) w') ∧ ((Instr.loadAt 3 (.pointer (some ⟨cb, co + k, none⟩))).run Try.prog w' = .ok (.int .i64 x) w'))) (by kernel_rfl) ⟨(atVm hE.drew (by repeat (first | exact List.Mem.head _ | refine List.Mem.tail _ ?_)) (by simp [go_sem]) rfl), (atVm hE.drew (by repeat (first | exact List.Mem.head _ | refine List.Mem.tail _ ?_)) (by simp [go_sem]) rfl), (atCell (La.out _ (hE.drew.suf (by repeat (first | exact List.suffix_refl _ | refine List.IsSuffix.trans ?_ (List.suffix_cons _ _))))) (by simp [go_sem])), (atCell (Lb.out _ (hE.drew.suf (by repeat (first | exact List.suffix_refl _ | refine List.IsSuffix.trans ?_ (List.suffix_cons _ _))))) (by simp [go_sem]))⟩ (fun hS => ?_)
                refine takeW 0 ⟨some 83, .fieldAddr 70 (.tmp 2) 3, 0, "law.go:31", #[], none⟩ ?_ (.inl ⟨by rfl, ?_⟩) hS ?_
                rotate_left
                · (intro w hSw; (try dsimp only at hSw); go_simp; (try with_reducible rfl))
                try simp only [Act.put, sb, s0, sz]
                refine takeW 1 ⟨some 84, .load 64 (.tmp 83), 64, "law.go:31", #[⟨0, .data⟩], none⟩ ?_ (.inl ⟨by rfl, ?_⟩) hS ?_
                rotate_left
                · (intro w hSw; (try dsimp only at hSw); go_simp; (try with_reducible rfl))
                try simp only [Act.put, sb, s0, sz]
                refine takeW 2 ⟨some 85, .move (.tmp 7), 3, "law.go:31", #[], none⟩ ?_ (.inl ⟨by rfl, ?_⟩) hS ?_
                rotate_left
                · (intro w hSw; (try dsimp only at hSw); go_simp; (try with_reducible rfl))
                try simp only [Act.put, sb, s0, sz]
                refine takeW 3 ⟨some 86, .indexAddr 64 (.tmp 84) (.tmp 85), 0, "law.go:31", #[⟨1, .data⟩, ⟨2, .data⟩], none⟩ ?_ (.inl ⟨by rfl, ?_⟩) hS ?_
                rotate_left
                · (intro w hSw; (try dsimp only at hSw); go_simp; (try with_reducible rfl))
                try simp only [Act.put, sb, s0, sz]
                refine takeW 4 ⟨some 87, .load 3 (.tmp 86), 3, "law.go:31", #[⟨3, .data⟩], none⟩ ?_ (.inl ⟨by rfl, ?_⟩) hS ?_
                rotate_left
                · (intro w hSw; (try dsimp only at hSw); go_simp; (try with_reducible rfl))
                try simp only [Act.put, sb, s0, sz]
                refine takeW 5 ⟨some 88, .fieldAddr 70 (.tmp 3) 3, 0, "law.go:31", #[], none⟩ ?_ (.inl ⟨by rfl, ?_⟩) hS ?_
                rotate_left
                · (intro w hSw; (try dsimp only at hSw); go_simp; (try with_reducible rfl))
                try simp only [Act.put, sb, s0, sz]
                refine takeW 6 ⟨some 89, .load 64 (.tmp 88), 64, "law.go:31", #[⟨5, .data⟩], none⟩ ?_ (.inl ⟨by rfl, ?_⟩) hS ?_
                rotate_left
                · (intro w hSw; (try dsimp only at hSw); go_simp; (try with_reducible rfl))
                try simp only [Act.put, sb, s0, sz]
                refine takeW 7 ⟨some 90, .move (.tmp 7), 3, "law.go:31", #[], none⟩ ?_ (.inl ⟨by rfl, ?_⟩) hS ?_
                rotate_left
                · (intro w hSw; (try dsimp only at hSw); go_simp; (try with_reducible rfl))
                try simp only [Act.put, sb, s0, sz]
                refine takeW 8 ⟨some 91, .indexAddr 64 (.tmp 89) (.tmp 90), 0, "law.go:31", #[⟨6, .data⟩, ⟨7, .data⟩], none⟩ ?_ (.inl ⟨by rfl, ?_⟩) hS ?_
                rotate_left
                · (intro w hSw; (try dsimp only at hSw); go_simp; (try with_reducible rfl))
                try simp only [Act.put, sb, s0, sz]
                refine takeW 9 ⟨some 92, .load 3 (.tmp 91), 3, "law.go:31", #[⟨8, .data⟩], none⟩ ?_ (.inl ⟨by rfl, ?_⟩) hS ?_
                rotate_left
                · (intro w hSw; (try dsimp only at hSw); go_simp; (try with_reducible rfl))
                try simp only [Act.put, sb, s0, sz]
                refine takeW 10 ⟨some 93, .binOp .neq 3 (.tmp 87) (.tmp 92) 3, 4, "law.go:31", #[⟨4, .data⟩, ⟨9, .data⟩], none⟩ ?_ (.inl ⟨by rfl, ?_⟩) hS ?_
                rotate_left
                · (intro w hSw; (try dsimp only at hSw); go_simp; (try with_reducible rfl))
                try simp only [Act.put, sb, s0, sz]
                refine wpAnyH_done (by kernel_rfl) ?_ _
                go_wp2
                go_roundw
                case rel => exact ⟨k + 1, hlt, by first | rfl | simp, hE.drew⟩
                case measure => simp [intOf] <;> omega
              · have hkd : decide (k < kids.length) = false := decide_eq_false hlt
                clear hlt hkl
                go_wp2_with (first
                  | go_skip
                  | ((with_reducible (show Go.wpList _ _ _ (Go.Oper.mk _ (.load _ _) _ _ _ _ :: _) _ _)); refine wpl_load1 hE 1 rfl rfl rfl rfl (by simp [go_sem]) rfl ?_))
                go_ret
                exact ⟨_, rfl, rfl, hE.tail.tail⟩

def bndN (n : Nd) : Prop := n.keys.length ≤ 600 ∧ n.vals.length ≤ 600 ∧ n.kids.length ≤ 600 ∧ (∀ x ∈ n.keys, x.length ≤ 100) ∧ ∀ x ∈ n.vals, x.length ≤ 100
def GnPost (n : Nd) (v : Value) : Prop := ∃ g, v = .bool g ∧ (g = false → bndN n)
def ShRel (xs : List (List UInt8)) (l : List HProp) (i : Value) (wr : World) : Prop := ∃ k : Nat, k ≤ xs.length ∧ i = .int .i64 k ∧ (∀ x ∈ xs.take k, x.length ≤ 100) ∧ Ent l wr
set_option maxRecDepth 100000 in
set_option maxHeartbeats 8000000 in
theorem great_node' {leaf : Bool} {keys vals : List (List UInt8)} {kids : List Int} {ka va ia : Option Addr} {kc vc ic : Nat} {l : List HProp} {w : World} (hE : Ent l w) (hk : Knows l (reads (.slice ka keys.length kc) keys.length (keys.map strv))) (hv : Knows l (reads (.slice va vals.length vc) vals.length (vals.map strv))) (hi : Knows l (reads (.slice ia kids.length ic) kids.length (kids.map intv))) :
    Calls Try.prog 25 #[.agg #[.bool leaf, .slice ka keys.length kc, .slice va vals.length vc, .slice ia kids.length ic]] w (Ret fun v w' => GnPost ⟨leaf, keys, vals, kids⟩ v ∧ Ent l w') := by
  by_cases h1 : (600 : Int) < (keys.length : Int)
  · go_enter Try.func25, Try.ntmps25
    go_wp2_with (first | go_skip | ((with_reducible (show Go.wpList _ _ _ (Go.Oper.mk _ (.box _ (.tmp 0)) _ _ _ _ :: _) _ _)); refine wpl_box hE rfl rfl rfl ?_; clear hE; intro b1 w hE; simp only [Act.eval, Act.put, List.setIfInBounds_toArray, List.set_cons_zero, List.set_cons_succ, getD_lit, List.getD_cons_succ, List.getD_cons_zero, Value.cells] at hE) | ((with_reducible (show Go.wpList _ _ _ (Go.Oper.mk _ (.load _ _) _ _ _ _ :: _) _ _)); refine wpl_load1 hE 0 rfl rfl rfl rfl (by simp [go_sem]) rfl ?_))
    go_ret
    exact ⟨_, rfl, ⟨true, rfl, by simp⟩, hE.tail⟩
  by_cases h2 : (600 : Int) < (vals.length : Int)
  · have d1 : decide ((600 : Int) < (keys.length : Int)) = false := decide_eq_false h1
    clear h1
    go_enter Try.func25, Try.ntmps25
    go_wp2_with (first | go_skip | ((with_reducible (show Go.wpList _ _ _ (Go.Oper.mk _ (.box _ (.tmp 0)) _ _ _ _ :: _) _ _)); refine wpl_box hE rfl rfl rfl ?_; clear hE; intro b1 w hE; simp only [Act.eval, Act.put, List.setIfInBounds_toArray, List.set_cons_zero, List.set_cons_succ, getD_lit, List.getD_cons_succ, List.getD_cons_zero, Value.cells] at hE) | ((with_reducible (show Go.wpList _ _ _ (Go.Oper.mk _ (.load _ _) _ _ _ _ :: _) _ _)); refine wpl_load1 hE 0 rfl rfl rfl rfl (by simp [go_sem]) rfl ?_))
    go_ret
    exact ⟨_, rfl, ⟨true, rfl, by simp⟩, hE.tail⟩
  by_cases h3 : (600 : Int) < (kids.length : Int)
  · have d1 : decide ((600 : Int) < (keys.length : Int)) = false := decide_eq_false h1
    have d2 : decide ((600 : Int) < (vals.length : Int)) = false := decide_eq_false h2
    clear h1 h2
    go_enter Try.func25, Try.ntmps25
    go_wp2_with (first | go_skip | ((with_reducible (show Go.wpList _ _ _ (Go.Oper.mk _ (.box _ (.tmp 0)) _ _ _ _ :: _) _ _)); refine wpl_box hE rfl rfl rfl ?_; clear hE; intro b1 w hE; simp only [Act.eval, Act.put, List.setIfInBounds_toArray, List.set_cons_zero, List.set_cons_succ, getD_lit, List.getD_cons_succ, List.getD_cons_zero, Value.cells] at hE) | ((with_reducible (show Go.wpList _ _ _ (Go.Oper.mk _ (.load _ _) _ _ _ _ :: _) _ _)); refine wpl_load1 hE 0 rfl rfl rfl rfl (by simp [go_sem]) rfl ?_))
    go_ret
    exact ⟨_, rfl, ⟨true, rfl, by simp⟩, hE.tail⟩
  have d1 : decide ((600 : Int) < (keys.length : Int)) = false := decide_eq_false h1
  have d2 : decide ((600 : Int) < (vals.length : Int)) = false := decide_eq_false h2
  have d3 : decide ((600 : Int) < (kids.length : Int)) = false := decide_eq_false h3
  have n1 : keys.length ≤ 600 := by omega
  have n2 : vals.length ≤ 600 := by omega
  have n3 : kids.length ≤ 600 := by omega
  clear h1 h2 h3
  go_enter Try.func25, Try.ntmps25
  go_wp2_with (first | go_skip | ((with_reducible (show Go.wpList _ _ _ (Go.Oper.mk _ (.box _ (.tmp 0)) _ _ _ _ :: _) _ _)); refine wpl_box hE rfl rfl rfl ?_; clear hE; intro b1 w hE; simp only [Act.eval, Act.put, List.setIfInBounds_toArray, List.set_cons_zero, List.set_cons_succ, getD_lit, List.getD_cons_succ, List.getD_cons_zero, Value.cells] at hE) | ((with_reducible (show Go.wpList _ _ _ (Go.Oper.mk _ (.load _ _) _ _ _ _ :: _) _ _)); refine wpl_load1 hE 0 rfl rfl rfl rfl (by simp [go_sem]) rfl ?_))
  clear d1 d2 d3
  go_loopw [3] (fun i wr => ShRel keys (ndB b1 66 leaf keys vals kids ka va ia kc vc ic :: l) i wr) (fun i _ => keys.length - (intOf i).toNat)
  case atStart => exact ⟨0, Nat.zero_le _, rfl, by simp, hE⟩
  case round =>
    clear hE
    obtain ⟨k, hkl, rfl, hall, hE⟩ := hrel
    by_cases hlt : k < keys.length
    · obtain ⟨bb, bo, rfl, k0⟩ := reads_map (hk _ (hE.suf (by repeat (first | exact List.suffix_refl _ | refine List.IsSuffix.trans ?_ (List.suffix_cons _ _))))) hlt
      have Hs := SL.hid (show keys[k].length ≤ 100 → ∀ x ∈ keys.take (k + 1), x.length ≤ 100 from fun h x hx => by
        rw [List.take_succ_eq_append_getElem hlt, List.mem_append, List.mem_singleton] at hx
        rcases hx with hx | rfl
        · exact hall x hx
        · exact h)
      clear hall
      generalize keys[k] = x at *
      rw [strv] at k0
      by_cases a1 : (100 : Int) < (x.length : Int)
      · go_wp2_with (first | go_skip | ((with_reducible (show Go.wpList _ _ _ (Go.Oper.mk _ (.load _ _) _ _ _ _ :: _) _ _)); refine wpl_load1 hE 0 rfl rfl rfl rfl (by simp [go_sem]) rfl ?_))
        go_ret
        exact ⟨_, rfl, ⟨true, rfl, by simp⟩, hE.tail⟩
      have e1 : decide ((100 : Int) < (x.length : Int)) = false := decide_eq_false a1
      have Hx := SL.hid (show x.length ≤ 100 by omega)
      clear a1
      go_wp2_with (first | go_skip | ((with_reducible (show Go.wpList _ _ _ (Go.Oper.mk _ (.load _ _) _ _ _ _ :: _) _ _)); refine wpl_load1 hE 0 rfl rfl rfl rfl (by simp [go_sem]) rfl ?_))
      go_roundw
      case rel => exact ⟨k + 1, hlt, by first | rfl | simp, Hs.out Hx.out, hE⟩
      case measure => simp [intOf] <;> omega
    · have Hall := SL.hid (show ∀ x ∈ keys, x.length ≤ 100 by rwa [show k = keys.length by omega, List.take_length] at hall)
      have hkd : decide (k < keys.length) = false := decide_eq_false hlt
      clear hall hlt hkl
      go_wp2_with (first | go_skip | ((with_reducible (show Go.wpList _ _ _ (Go.Oper.mk _ (.load _ _) _ _ _ _ :: _) _ _)); refine wpl_load1 hE 0 rfl rfl rfl rfl (by simp [go_sem]) rfl ?_))
      go_loopw [4] (fun i wr => ShRel vals (ndB b1 66 leaf keys vals kids ka va ia kc vc ic :: l) i wr) (fun i _ => vals.length - (intOf i).toNat)
      case atStart => exact ⟨0, Nat.zero_le _, rfl, by simp, hE⟩
      case round =>
        clear hE hkd
        obtain ⟨j, hjl, rfl, hall, hE⟩ := hrel
        by_cases hlt : j < vals.length
        · obtain ⟨bb, bo, rfl, k0⟩ := reads_map (hv _ (hE.suf (by repeat (first | exact List.suffix_refl _ | refine List.IsSuffix.trans ?_ (List.suffix_cons _ _))))) hlt
          have Hs := SL.hid (show vals[j].length ≤ 100 → ∀ x ∈ vals.take (j + 1), x.length ≤ 100 from fun h x hx => by
            rw [List.take_succ_eq_append_getElem hlt, List.mem_append, List.mem_singleton] at hx
            rcases hx with hx | rfl
            · exact hall x hx
            · exact h)
          clear hall
          generalize vals[j] = x at *
          rw [strv] at k0
          by_cases a1 : (100 : Int) < (x.length : Int)
          · go_wp2_with (first | go_skip | ((with_reducible (show Go.wpList _ _ _ (Go.Oper.mk _ (.load _ _) _ _ _ _ :: _) _ _)); refine wpl_load1 hE 0 rfl rfl rfl rfl (by simp [go_sem]) rfl ?_))
            go_ret
            exact ⟨_, rfl, ⟨true, rfl, by simp⟩, hE.tail⟩
          have e1 : decide ((100 : Int) < (x.length : Int)) = false := decide_eq_false a1
          have Hx := SL.hid (show x.length ≤ 100 by omega)
          clear a1
          go_wp2_with (first | go_skip | ((with_reducible (show Go.wpList _ _ _ (Go.Oper.mk _ (.load _ _) _ _ _ _ :: _) _ _)); refine wpl_load1 hE 0 rfl rfl rfl rfl (by simp [go_sem]) rfl ?_))
          go_roundw
          case rel => exact ⟨j + 1, hlt, by first | rfl | simp, Hs.out Hx.out, hE⟩
          case measure => simp [intOf] <;> omega
        · have Hall2 := SL.hid (show ∀ x ∈ vals, x.length ≤ 100 by rwa [show j = vals.length by omega, List.take_length] at hall)
          have hjd : decide (j < vals.length) = false := decide_eq_false hlt
          clear hall hlt hjl
          go_wp2_with (first | go_skip | ((with_reducible (show Go.wpList _ _ _ (Go.Oper.mk _ (.load _ _) _ _ _ _ :: _) _ _)); refine wpl_load1 hE 0 rfl rfl rfl rfl (by simp [go_sem]) rfl ?_))
          go_ret
          exact ⟨_, rfl, ⟨_, rfl, fun _ => ⟨n1, n2, n3, Hall.out, Hall2.out⟩⟩, hE.tail⟩


theorem bs_string (b off n c : Nat) (Sx : Nat → ByteArray) (x : ByteArray) (w : World) (hbig : n < 4611686018427387904) (hc : ∀ j, j < n → w.cell? ⟨b, off + j, none⟩ = some (.string (Sx j))) :
    Calls Try.prog 72 #[.slice (some ⟨b, off, none⟩) n c, .string x] w fun e w' =>
      e = .returned (.tuple #[.int .i64 (Lib.bsGo (fun t => Op.bytesLess (Sx t).toList x.toList) n 0 n : Nat), .bool (decide (Lib.bsGo (fun t => Op.bytesLess (Sx t).toList x.toList) n 0 n < n ∧ Sx (Lib.bsGo (fun t => Op.bytesLess (Sx t).toList x.toList) n 0 n) = x))]) ∧ ∃ q, w' = w.drewN q := Any2.slices_BinarySearch_string Try.lays2n26 b off n c Sx x w hbig hc
theorem bs_string_empty (a : Option Addr) (c : Nat) (x : ByteArray) (w : World) :
    Calls Try.prog 72 #[.slice a 0 c, .string x] w fun e w' => e = .returned (.tuple #[.int .i64 0, .bool false]) ∧ w' = w := Any2.slices_BinarySearch_string_empty Try.lays2n26 a c x w
theorem search_any {keys : List (List UInt8)} {ka : Option Addr} {kc : Nat} (bk : keys.length ≤ 100000) (hrise : Rising keys) (key : List UInt8) {l : List HProp} {w : World} (hE : Ent l w) (hk : Knows l (reads (.slice ka keys.length kc) keys.length (keys.map strv))) :
    Calls Try.prog 72 #[.slice ka keys.length kc, .string ⟨key.toArray⟩] w (Ret fun v w' => v = .tuple #[.int .i64 (placeOf keys key : Nat), .bool (isIn keys key)] ∧ Ent l w') := by
  rcases Nat.eq_zero_or_pos keys.length with h0 | h0
  · have e : keys = [] := List.eq_nil_of_length_eq_zero h0
    subst e
    refine (bs_string_empty ka kc _ w).mono ?_
    rintro e w' ⟨rfl, rfl⟩
    exact ⟨_, rfl, rfl, hE⟩
  · obtain ⟨b, off, rfl, _⟩ := reads_map (hk _ hE) h0
    have h := bs_string b off keys.length kc (fun j => ⟨(keys.getD j []).toArray⟩) ⟨key.toArray⟩ w (by omega) (fun j hj => by
      obtain ⟨b', o', e, h⟩ := reads_map (hk _ hE) hj
      cases e
      rw [h, strv, List.getD_eq_getElem?_getD, List.getElem?_eq_getElem hj]
      rfl)
    obtain ⟨f1, f2, f3, f4⟩ := find_at hrise key
    have e1 : (fun t => Op.bytesLess (⟨(keys.getD t []).toArray⟩ : ByteArray).toList (⟨key.toArray⟩ : ByteArray).toList) = fun t => Op.bytesLess (keys.getD t []) key := by
      funext t
      rw [Lib.toList_data, Lib.toList_data]
    rw [e1, f1] at h
    have e2 : decide (placeOf keys key < keys.length ∧ (⟨(keys.getD (placeOf keys key) []).toArray⟩ : ByteArray) = ⟨key.toArray⟩) = isIn keys key := by
      rw [Bool.eq_iff_iff, decide_eq_true_iff, f4]
      constructor
      · rintro ⟨a, c⟩
        refine ⟨a, ?_⟩
        have : (keys.getD (placeOf keys key) []).toArray = key.toArray := congrArg ByteArray.data c
        rw [List.getD_eq_getElem?_getD, List.getElem?_eq_getElem a] at this
        simpa using this
      · rintro ⟨a, c⟩
        refine ⟨a, ?_⟩
        rw [List.getD_eq_getElem?_getD, List.getElem?_eq_getElem a]
        simp [c]
    rw [e2] at h
    refine h.mono ?_
    rintro e w' ⟨rfl, q, rfl⟩
    exact ⟨_, rfl, rfl, hE.drewN q⟩

set_option maxRecDepth 100000 in
theorem Find_any {leaf : Bool} {keys : List (List UInt8)} {ka : Option Addr} {kc : Nat} {v2 v3 : Value} (bk : keys.length ≤ 100000) (hrise : Rising keys) (key : List UInt8) {l : List HProp} {w : World} (hE : Ent l w) (hk : Knows l (reads (.slice ka keys.length kc) keys.length (keys.map strv))) :
    Calls Try.prog 36 #[.agg #[.bool leaf, .slice ka keys.length kc, v2, v3], .string ⟨key.toArray⟩] w (Ret fun v w' => v = .tuple #[.int .i64 (placeOf keys key : Nat), .bool (isIn keys key)] ∧ Ent l w') := by
  have hS := fun {l : List HProp} {w : World} (h : Ent l w) (k : Knows l (reads (.slice ka keys.length kc) keys.length (keys.map strv))) => search_any bk hrise key h k
  generalize placeOf keys key = pl at *
  generalize isIn keys key = ii at *
  clear hrise
  go_enter Try.func36, Try.ntmps36
  go_wp2_with (first
    | go_skip
    | ((with_reducible (show Go.wpList _ _ _ (Go.Oper.mk _ (.box _ (.tmp 0)) _ _ _ _ :: _) _ _)); refine wpl_box hE rfl rfl rfl ?_; clear hE; intro b2 w hE; simp only [Act.eval, Act.put, List.setIfInBounds_toArray, List.set_cons_zero, List.set_cons_succ, getD_lit, List.getD_cons_succ, List.getD_cons_zero, Value.cells] at hE)
    | ((with_reducible (show Go.wpList _ _ _ (Go.Oper.mk _ (.load _ _) _ _ _ _ :: _) _ _)); refine wpl_load1 hE 0 rfl rfl rfl rfl (by simp [go_sem]) rfl ?_)
    | (go_at_call 72; refine (hS hE (hk.suf (by repeat (first | exact List.suffix_refl _ | refine List.IsSuffix.trans ?_ (List.suffix_cons _ _))))).mono ?_; clear hE; rintro e w2 ⟨v, rfl, rfl, hE⟩))
  go_ret2
  exact ⟨_, rfl, rfl, hE.tail⟩
def downOf (ks : List (List UInt8)) (key : List UInt8) : Nat := placeOf ks key + if isIn ks key then 1 else 0
theorem placeOf_le (ks : List (List UInt8)) (key : List UInt8) : placeOf ks key ≤ ks.length := List.countP_le_length
set_option maxRecDepth 100000 in
theorem Down_any {leaf : Bool} {keys : List (List UInt8)} {ka : Option Addr} {kc : Nat} {v2 v3 : Value} (bk : keys.length ≤ 100000) (hrise : Rising keys) (key : List UInt8) {l : List HProp} {w : World} (hE : Ent l w) (hk : Knows l (reads (.slice ka keys.length kc) keys.length (keys.map strv))) :
    Calls Try.prog 38 #[.agg #[.bool leaf, .slice ka keys.length kc, v2, v3], .string ⟨key.toArray⟩] w (Ret fun v w' => v = .int .i64 (downOf keys key : Nat) ∧ Ent l w') := by
  have hF := fun {l : List HProp} {w : World} (h : Ent l w) (k : Knows l (reads (.slice ka keys.length kc) keys.length (keys.map strv))) => Find_any (leaf := leaf) (v2 := v2) (v3 := v3) bk hrise key h k
  have R := SL.hid (show downOf keys key = placeOf keys key + if isIn keys key then 1 else 0 from rfl)
  have hp := placeOf_le keys key
  generalize downOf keys key = d at *
  generalize placeOf keys key = pl at *
  generalize isIn keys key = ii at *
  clear hrise
  cases ii
  all_goals
    go_enter Try.func38, Try.ntmps38
    go_wp2_with (first
      | go_skip
      | ((with_reducible (show Go.wpList _ _ _ (Go.Oper.mk _ (.box _ (.tmp 0)) _ _ _ _ :: _) _ _)); refine wpl_box hE rfl rfl rfl ?_; clear hE; intro b2 w hE; simp only [Act.eval, Act.put, List.setIfInBounds_toArray, List.set_cons_zero, List.set_cons_succ, getD_lit, List.getD_cons_succ, List.getD_cons_zero, Value.cells] at hE)
      | ((with_reducible (show Go.wpList _ _ _ (Go.Oper.mk _ (.load _ _) _ _ _ _ :: _) _ _)); refine wpl_loadW hE 0 rfl rfl rfl rfl Try.isAgg70 Try.sizeOf70 (xs := [.bool leaf, .slice ka keys.length kc, v2, v3]) rfl ?_)
      | (go_at_call 36; refine (hF hE (hk.suf (by repeat (first | exact List.suffix_refl _ | refine List.IsSuffix.trans ?_ (List.suffix_cons _ _))))).mono ?_; clear hE; rintro e w2 ⟨v, rfl, rfl, hE⟩))
    go_ret
    exact ⟨_, rfl, by rw [R.out]; rfl, hE.tail⟩
end Go.Proofs.Ytohdljcpaogokaa
