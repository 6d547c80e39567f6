/-
  The node of a page, as the program takes it. Printed by gen_nd6.py.
-/
import Derived.Test.YtohdljcpaogokaaNd5
namespace Go.Proofs.Ytohdljcpaogokaa
open Go.RowKit Go.SL

theorem Equal_any {a b : List UInt8} {ao bo : Option Addr} {c d : Nat} {w : World} (ha : reads (.slice ao a.length c) a.length (bvals a) w) (hb : reads (.slice bo b.length d) b.length (bvals b) w) :
    Calls Try.prog 60 #[.slice ao a.length c, .slice bo b.length d] w (fun e w' => e = .returned (.bool (a == b)) ∧ w = w') := by
  have c1 := bytesToString_reads (P := Try.prog) Try.underlying42 Try.underlying5 Try.underlying9 (bs := a) ha rfl
  have c2 := bytesToString_reads (P := Try.prog) Try.underlying42 Try.underlying5 Try.underlying9 (bs := b) hb rfl
  go_enter Try.func60, Try.ntmps60
  go_wp2
  go_ret
  exact ⟨rfl, rfl⟩

abbrev rowS (ao : Option Addr) (c : Nat) (xs : List (List UInt8)) : HProp := row 9 1 (.slice ao xs.length c) xs.length (xs.map strv)
abbrev rowI (ao : Option Addr) (c : Nat) (xs : List Int) : HProp := row 3 1 (.slice ao xs.length c) xs.length (xs.map intv)
theorem info_str : elemInfo Try.prog 9 = some (some 1, 1, 16) := by kernel_rfl
theorem info_int : elemInfo Try.prog 3 = some (some 1, 1, 8) := by kernel_rfl
theorem tkV2_lt (s : St) : tkV 2 s < 65536 := by
  unfold tkV valT
  split
  · rcases h : s.bs with _ | ⟨c, _ | ⟨d, r⟩⟩
    · show beVal (List.take (2 : Int).toNat []) < 65536
      simp [beVal]
    · show beVal [c] < 65536
      rw [beVal_one]; have := c.toNat_lt; omega
    · show beVal [c, d] < 65536
      have := c.toNat_lt
      have := d.toNat_lt
      simp only [beVal, List.foldl_cons, List.foldl_nil]
      omega
  · omega
theorem rdK_stop {n : Nat} {x : List Int × St} (h : (x.2.err == 0) = false) : rdK n x = x := by
  have h' : ¬ x.2.err = 0 := by simpa using h
  cases n with
  | zero => rfl
  | succ n => rw [rdK, if_neg h']
theorem rdK_go {n : Nat} {x : List Int × St} (h : (x.2.err == 0) = true) : rdK (n + 1) x = rdK n (x.1 ++ [(tkV 2 x.2 : Int)], tk 2 x.2) := by
  have h' : x.2.err = 0 := by simpa using h
  rw [rdK, if_pos h']
theorem rdE_stop {lf : Bool} {kw vw : Int} {n : Nat} {x : Es} (h : (x.s.err == 0) = false) : rdE lf kw vw n x = x := by
  have h' : ¬ x.s.err = 0 := by simpa using h
  cases n with
  | zero => rfl
  | succ n => rw [rdE, if_neg h']
theorem rdE_go {lf : Bool} {kw vw : Int} {n : Nat} {x : Es} (h : (x.s.err == 0) = true) : rdE lf kw vw (n + 1) x = rdE lf kw vw n (rdStep lf kw vw x) := by
  have h' : x.s.err = 0 := by simpa using h
  rw [rdE, if_pos h']
abbrev tkB4 (b4 b2 : Nat) (kw vw : Int) (l : List HProp) : List HProp := pt b4 (.cells #[.bool false, .slice none 0 0, .slice none 0 0, .slice none 0 0] 70) :: shB b2 68 kw vw :: l
def TK1 (o b7 : Nat) (m n : Nat) (R : List Int × St) (l : List HProp) (i : Value) (wr : World) : Prop := ∃ (k : Nat) (ks : List Int) (s : St) (ia : Option Addr) (ic : Nat),
  k ≤ n ∧ i = .int .i64 k ∧ rdK (n - k) (ks, s) = R ∧ s.bs.length ≤ m ∧ ks.length ≤ k ∧
  Ent (opener o s.bs s.err :: pt b7 (.cells #[.bool false, .slice none 0 0, .slice none 0 0, .slice ia ks.length ic] 70) :: rowI ia ic ks :: l) wr
def TK2 (lf : Bool) (kw vw : Int) (o b7 : Nat) (m n : Nat) (R : Es) (ia : Option Addr) (ic : Nat) (kids : List Int) (l : List HProp) (i : Value) (wr : World) : Prop := ∃ (k : Nat) (x : Es) (ka va : Option Addr) (kc vc : Nat),
  k ≤ n ∧ i = .int .i64 k ∧ rdE lf kw vw (n - k) x = R ∧ x.s.bs.length ≤ m ∧ x.ks.length ≤ k ∧ x.vs.length ≤ k ∧
  Ent (opener o x.s.bs x.s.err :: pt b7 (.cells #[.bool lf, .slice ka x.ks.length kc, .slice va x.vs.length vc, .slice ia kids.length ic] 70) :: rowS ka kc x.ks :: rowS va vc x.vs :: rowI ia ic kids :: l) wr
theorem leafR_int {n : Nat} {b : Bool} (h : ((n : Int) == 1) = b) : ((n : Int) == 1) = b := h
def takeRes (kw vw : Int) (b : List UInt8) (l : List HProp) (v : Value) (w' : World) : Prop := ∃ ka kc va vc ia ic,
  v = .tuple #[.agg #[.bool (resN kw vw b).leaf, .slice ka (resN kw vw b).keys.length kc, .slice va (resN kw vw b).vals.length vc, .slice ia (resN kw vw b).kids.length ic], .int .i64 (errN kw vw b)] ∧
  Ent (rowS ka kc (resN kw vw b).keys :: rowS va vc (resN kw vw b).vals :: rowI ia ic (resN kw vw b).kids :: l) w'
theorem takeRes_zero {kw vw : Int} {b : List UInt8} {l : List HProp} {w' : World} {e : Int} (h : resN kw vw b = nodeZ ∧ errN kw vw b = e) (hE : Ent l w') : takeRes kw vw b l (.tuple #[.agg #[.bool false, .slice none 0 0, .slice none 0 0, .slice none 0 0], .int .i64 e]) w' := by
  refine ⟨none, 0, none, 0, none, 0, ?_, ?_⟩
  · rw [h.1, h.2]; rfl
  · rw [h.1]; exact ((hE.nil _ _).nil _ _).nil _ _
theorem resN_not {kw vw : Int} {b : List UInt8} (h : rightN kw vw = false) : resN kw vw b = nodeZ ∧ errN kw vw b = 2 := by
  rw [resN, errN, h]; exact ⟨rfl, rfl⟩
theorem resN_bad {kw vw : Int} {b : List UInt8} (h : rightN kw vw = true) (h2 : okR kw vw b = false) : resN kw vw b = nodeZ ∧ errN kw vw b = 3 := by
  rw [resN, errN, h, h2]; exact ⟨rfl, rfl⟩
theorem resN_good {kw vw : Int} {b : List UInt8} (h : rightN kw vw = true) (h2 : okR kw vw b = true) : resN kw vw b = nodeR kw vw b ∧ errN kw vw b = 0 := by
  rw [resN, errN, h, h2]; exact ⟨rfl, rfl⟩

set_option maxRecDepth 100000 in
set_option maxHeartbeats 4000000 in
theorem take_not_right {kw vw : Int} {b : List UInt8} {ab : Option Addr} {cb : Nat} (hr : rightN kw vw = false) {l : List HProp} {w : World} (hE : Ent l w) :
    Calls Try.prog 39 #[.agg #[.int .i64 kw, .int .i64 vw], .slice ab b.length cb] w (Ret (takeRes kw vw b l)) := by
  have R := SL.hid (resN_not (b := b) hr)
  have Hr := SL.hid hr
  clear hr
  go_enter Try.func39, Try.ntmps39
  go_wp2_with (first
    | go_skip
    | ((with_reducible (show Go.wpList _ _ _ (Go.Oper.mk _ (.box _ (.tmp 0)) _ _ _ _ :: _) _ _)); refine wpl_box hE rfl rfl rfl ?_; clear hE; intro b2 w hE; simp only [Act.eval, Act.put, List.setIfInBounds_toArray, List.set_cons_zero, List.set_cons_succ, getD_lit, List.getD_cons_succ, List.getD_cons_zero, Value.cells] at hE)
    | ((with_reducible (show Go.wpList _ _ _ (Go.Oper.mk _ (.alloc 70) _ _ _ _ :: _) _ _)); refine wpl_alloc hE rfl rfl (by simp [go_sem]; rfl) ?_; clear hE; intro b4 w hE; simp only [Act.eval, Act.put, List.setIfInBounds_toArray, List.set_cons_zero, List.set_cons_succ, getD_lit, List.getD_cons_succ, List.getD_cons_zero, Value.cells] at hE)
    | ((with_reducible (show Go.wpList _ _ _ (Go.Oper.mk _ (.load 68 (.tmp 2)) _ _ _ _ :: _) _ _)); refine wpl_loadW hE 1 rfl rfl rfl rfl Try.isAgg68 Try.sizeOf68 (xs := [.int .i64 kw, .int .i64 vw]) rfl ?_)
    | (go_at_call 27; have H := May_shape (kw := kw) (vw := vw) hE; rw [Hr.out] at H; refine H.mono ?_; clear H hE; rintro e w2 ⟨v, rfl, rfl, hE⟩)
    | ((with_reducible (show Go.wpList _ _ _ (Go.Oper.mk _ (.store _ _ _) _ _ _ _ :: _) _ _)); refine wpl_storeW hE 0 rfl rfl rfl (xs := [.bool false, .slice none 0 0, .slice none 0 0, .slice none 0 0]) rfl rfl Try.sizeOf70 rfl (by simp [Value.oneCell']) rfl ?_; clear hE; intro w hE; simp only [List.set_cons_zero, List.set_cons_succ] at hE))
  refine bodyPost_ret (results_cell2 rfl hE 0 rfl rfl Try.isAgg70 Try.sizeOf70 rfl rfl) rfl ?_
  exact ⟨_, rfl, takeRes_zero R.out hE.tail.tail⟩


set_option maxRecDepth 100000 in
set_option maxHeartbeats 8000000 in
theorem take_true {kw vw : Int} {b : List UInt8} (hb : b.length ≤ 100000) {ab : Option Addr} {cb : Nat} (hr : rightN kw vw = true) (hlf : leafR b = true) {l : List HProp} {w : World} (hE : Ent l w) (hkb : Knows l (reads (.slice ab b.length cb) b.length (bvals b))) :
    Calls Try.prog 39 #[.agg #[.int .i64 kw, .int .i64 vw], .slice ab b.length cb] w (Ret (takeRes kw vw b l)) := by
  have Hr := SL.hid hr
  have Hok0 := SL.hid (show okR kw vw b = ((entsR kw vw b).s.err == 0 && (mayB kw vw (nodeR kw vw b) && (pageU (nodeR kw vw b) == b))) from rfl)
  have Hnode0 := SL.hid (show nodeR kw vw b = ⟨leafR b, (entsR kw vw b).ks, (entsR kw vw b).vs, (kidsR b).1⟩ from rfl)
  have Hents := SL.hid (show rdE (leafR b) kw vw (keysR b) ⟨[], [], (kidsR b).2⟩ = entsR kw vw b from rfl)
  have Hkids := SL.hid (show kidsR b = ([], st3 b) by rw [kidsR, hlf]; rfl)
  have h1 : ((tkV 1 ⟨b, 0⟩ : Int) == 1) = true := hlf
  have T1 : ∀ {l : List HProp} {w : World} {o : Nat}, Ent (opener o b 0 :: l) w → Calls Try.prog 55 #[.pointer (some ⟨o, 0, none⟩), .int .i64 1] w (Ret fun v w' => v = .int .u64 (tkV 1 ⟨b, 0⟩) ∧ Ent (opener o (tk 1 ⟨b, 0⟩).bs (tk 1 ⟨b, 0⟩).err :: l) w') := fun h => sTake (s := ⟨b, 0⟩) h (by show b.length ≤ _; omega) 1
  have l1 : (tk 1 ⟨b, 0⟩).bs.length ≤ b.length := tk_len _ _
  have l2 : (tk 1 (tk 1 ⟨b, 0⟩)).bs.length ≤ b.length := Nat.le_trans (tk_len _ _) l1
  have l3 : (st3 b).bs.length ≤ b.length := Nat.le_trans (tk_len _ _) l2
  have T2 : ∀ {l : List HProp} {w : World} {o : Nat}, Ent (opener o (tk 1 ⟨b, 0⟩).bs (tk 1 ⟨b, 0⟩).err :: l) w → Calls Try.prog 55 #[.pointer (some ⟨o, 0, none⟩), .int .i64 1] w (Ret fun v w' => v = .int .u64 (tkV 1 (tk 1 ⟨b, 0⟩)) ∧ Ent (opener o (tk 1 (tk 1 ⟨b, 0⟩)).bs (tk 1 (tk 1 ⟨b, 0⟩)).err :: l) w') := fun h => sTake h (by omega) 1
  have T3 : ∀ {l : List HProp} {w : World} {o : Nat}, Ent (opener o (tk 1 (tk 1 ⟨b, 0⟩)).bs (tk 1 (tk 1 ⟨b, 0⟩)).err :: l) w → Calls Try.prog 55 #[.pointer (some ⟨o, 0, none⟩), .int .i64 2] w (Ret fun v w' => v = .int .u64 (keysR b) ∧ Ent (opener o (st3 b).bs (st3 b).err :: l) w') := fun h => sTake h (by omega) 2
  have hkr : keysR b < 65536 := tkV2_lt _
  generalize keysR b = nk at *
  have hwn : IntKind.i64.wrap (nk : Int) = (nk : Int) := wrap_id (by omega)
  generalize st3 b = s3 at *
  generalize tk 1 (tk 1 ⟨b, 0⟩) = s2 at *
  generalize tkV 1 (tk 1 ⟨b, 0⟩) = v2 at *
  generalize tk 1 ⟨b, 0⟩ = s1 at *
  generalize tkV 1 ⟨b, 0⟩ = v1 at *
  rw [hlf] at Hents Hnode0
  clear hlf
  generalize entsR kw vw b = RE at *
  generalize kidsR b = RK at *
  have hv1 : ((v1 : Int) == 1) = true := h1
  clear h1
  go_enter Try.func39, Try.ntmps39
  go_wp2_with (first
    | go_skip
    | ((with_reducible (show Go.wpList _ _ _ (Go.Oper.mk _ (.box _ (.tmp 0)) _ _ _ _ :: _) _ _)); refine wpl_box hE rfl rfl rfl ?_; clear hE; intro b2 w hE; simp only [Act.eval, Act.put, List.setIfInBounds_toArray, List.set_cons_zero, List.set_cons_succ, getD_lit, List.getD_cons_succ, List.getD_cons_zero, Value.cells] at hE)
    | ((with_reducible (show Go.wpList _ _ _ (Go.Oper.mk _ (.load 68 (.tmp 2)) _ _ _ _ :: _) _ _)); refine wpl_loadW hE 1 rfl rfl rfl rfl Try.isAgg68 Try.sizeOf68 (xs := [.int .i64 kw, .int .i64 vw]) rfl ?_)
    | (go_at_call 27; have H := May_shape (kw := kw) (vw := vw) hE; rw [Hr.out] at H; refine H.mono ?_; clear H hE; rintro e w2 ⟨v, rfl, rfl, hE⟩)
    | (go_at_call 47; have H := Of_any hE (hkb.suf (by repeat (first | exact List.suffix_refl _ | refine List.IsSuffix.trans ?_ (List.suffix_cons _ _)))) (by omega); refine H.mono ?_; clear H hE; rintro e w2 ⟨v, rfl, o, rfl, hE2⟩)
    | (go_at_call 55; have H := T1 hE2; refine H.mono ?_; clear H hE2; rintro e w3 ⟨v, rfl, rfl, hE3⟩)
    | ((with_reducible (show Go.wpList _ _ _ (Go.Oper.mk _ (.alloc 70) _ _ _ _ :: _) _ _)); refine wpl_alloc hE3 rfl rfl (by simp [go_sem]; rfl) ?_; clear hE3; intro b7 w hE4; simp only [Act.eval, Act.put, List.setIfInBounds_toArray, List.set_cons_zero, List.set_cons_succ, getD_lit, List.getD_cons_succ, List.getD_cons_zero, Value.cells] at hE4)
    | ((with_reducible (show Go.wpList _ _ _ (Go.Oper.mk _ (.alloc 70) _ _ _ _ :: _) _ _)); refine wpl_alloc hE rfl rfl (by simp [go_sem]; rfl) ?_; clear hE; intro b4 w hE; simp only [Act.eval, Act.put, List.setIfInBounds_toArray, List.set_cons_zero, List.set_cons_succ, getD_lit, List.getD_cons_succ, List.getD_cons_zero, Value.cells] at hE)
    | ((with_reducible (show Go.wpList _ _ _ (Go.Oper.mk _ (.store _ _ _) _ _ _ _ :: _) _ _)); refine wpl_storeW hE4 0 rfl rfl rfl (xs := [.bool true, .slice none 0 0, .slice none 0 0, .slice none 0 0]) rfl rfl Try.sizeOf70 rfl (by simp [Value.oneCell']) rfl ?_; clear hE4; intro w hE5; replace hE5 := hE5.front 1 rfl; simp only [List.set_cons_zero, List.set_cons_succ, List.eraseIdx_cons_zero, List.eraseIdx_cons_succ] at hE5)
    | (go_at_call 55; have H := T2 hE5; refine H.mono ?_; clear H hE5; rintro e w6 ⟨v, rfl, rfl, hE6⟩)
    | (go_at_call 55; have H := T3 hE6; refine H.mono ?_; clear H hE6; rintro e w7 ⟨v, rfl, rfl, hE7⟩))
  have hE8 : Ent (opener o s3.bs s3.err :: pt b7 (.cells #[.bool true, .slice none 0 0, .slice none 0 0, .slice none 0 0] 70) :: tkB4 b4 b2 kw vw l) w7 := hE7
  clear hE7
  have HRK := SL.hid (show RK.1 = ([] : List Int) by rw [Hkids.out])
  have Hents4 := SL.hid (show rdE true kw vw (nk - 0) ⟨[], [], s3⟩ = RE by rw [← Hents.out, Hkids.out]; rfl)
  go_loopw [9] (fun i wr => i = .int .i64 0 ∧ Ent (opener o s3.bs s3.err :: pt b7 (.cells #[.bool true, .slice none 0 0, .slice none 0 0, .slice none 0 0] 70) :: tkB4 b4 b2 kw vw l) wr) (fun _ _ => 0)
  case atStart => exact ⟨rfl, hE8⟩
  case round =>
    clear hE8
    obtain ⟨rfl, hE⟩ := hrel
    go_wp2_with (first
      | go_skip
      | ((with_reducible (show Go.wpList _ _ _ (Go.Oper.mk _ (.load 4 _) _ _ _ _ :: _) _ _)); refine wpl_load1 hE 1 rfl rfl rfl rfl (by simp [go_sem]) rfl ?_))
    have hEs := (((hE.nil 3 1).nil 9 1).nil 9 1)
    replace hEs : Ent (opener o s3.bs s3.err :: pt b7 (.cells #[.bool true, .slice none ([] : List (List UInt8)).length 0, .slice none ([] : List (List UInt8)).length 0, .slice none ([] : List Int).length 0] 70) :: rowS none 0 [] :: rowS none 0 [] :: rowI none 0 [] :: tkB4 b4 b2 kw vw l) _ := (hEs.front 4 rfl |>.front 4 rfl)
    clear hE
    have hl4 := l3
    generalize hkd : ([] : List Int) = kids at HRK hEs
    have bi : kids.length ≤ 100000 := by rw [← hkd]; simp
    clear hkd
    obtain ⟨ia, hia⟩ : ∃ ia : Option Addr, ia = none := ⟨_, rfl⟩
    obtain ⟨ic, hic⟩ : ∃ ic : Nat, ic = 0 := ⟨_, rfl⟩
    obtain ⟨s4, hs4⟩ : ∃ s4, s4 = s3 := ⟨_, rfl⟩
    rw [← hs4] at hEs Hents4 hl4
    have hEs' : Ent (opener o s4.bs s4.err :: pt b7 (.cells #[.bool true, .slice none ([] : List (List UInt8)).length 0, .slice none ([] : List (List UInt8)).length 0, .slice ia kids.length ic] 70) :: rowS none 0 [] :: rowS none 0 [] :: rowI ia ic kids :: tkB4 b4 b2 kw vw l) wr := by rw [hia, hic]; exact hEs
    clear hEs hia hic hs4
    have hEs := hEs'
    clear hEs'
    go_loopw [10] (fun i wr => TK2 true kw vw o b7 b.length nk RE ia ic kids (tkB4 b4 b2 kw vw l) i wr) (fun i _ => nk - (intOf i).toNat)
    case atStart => exact ⟨0, ⟨[], [], s4⟩, none, none, 0, 0, Nat.zero_le _, rfl, Hents4.out, hl4, Nat.le_refl _, Nat.le_refl _, hEs⟩
    case round =>
      clear hEs
      obtain ⟨k, ⟨ks, vs, s⟩, ka, va, kc, vc, hkn, rfl, hR, hsl, hk1, hv1', hE⟩ := hrel
      simp only at hR hsl hk1 hv1' hE
      by_cases hgo : k < nk ∧ (s.err == 0) = true
      · obtain ⟨hlt, he⟩ := hgo
        have HR := SL.hid (show rdE true kw vw (nk - (k + 1)) (rdStep true kw vw ⟨ks, vs, s⟩) = RE by
          rw [← hR, show nk - k = (nk - (k + 1)) + 1 by omega, rdE_go (by exact he)])
        clear hR
        have X1 : ∀ {l : List HProp} {w : World}, Ent (opener o s.bs s.err :: l) w → Calls Try.prog 56 #[.pointer (some ⟨o, 0, none⟩), .int .i64 kw] w (Ret fun v w' => v = .string ⟨(txV kw s).toArray⟩ ∧ Ent (opener o (tx kw s).bs (tx kw s).err :: l) w') := fun h => sText h (by omega) kw
        have lx : (tx kw s).bs.length ≤ b.length := Nat.le_trans (tx_len _ _) hsl
        have X2 : ∀ {l : List HProp} {w : World}, Ent (opener o (tx kw s).bs (tx kw s).err :: l) w → Calls Try.prog 56 #[.pointer (some ⟨o, 0, none⟩), .int .i64 vw] w (Ret fun v w' => v = .string ⟨(txV vw (tx kw s)).toArray⟩ ∧ Ent (opener o (tx vw (tx kw s)).bs (tx vw (tx kw s)).err :: l) w') := fun h => sText h (by omega) vw
        have ly : (tx vw (tx kw s)).bs.length ≤ b.length := Nat.le_trans (tx_len _ _) lx
        have HS : rdStep true kw vw ⟨ks, vs, s⟩ = ⟨ks ++ [txV kw s], vs ++ [txV vw (tx kw s)], tx vw (tx kw s)⟩ := rfl
        rw [HS] at HR
        clear HS
        generalize tx vw (tx kw s) = sy at *
        generalize txV vw (tx kw s) = y at *
        generalize tx kw s = sx at *
        generalize txV kw s = x at *
        go_wp2_with (first
          | go_skip
          | (go_at_call 52; have H := Err_any hE; refine H.mono ?_; clear H; rintro e w9 ⟨rfl, rfl⟩))
        refine wp_region_held_drew (S := (fun w' => (w'.cell? ⟨b2, 0, none⟩ = some (.int .i64 kw)))) (by kernel_rfl) (cellV hE.drew (by repeat (first | exact List.Mem.head _ | refine List.Mem.tail _ ?_)) rfl) (fun hS => ?_)
        refine takeW 0 ⟨some 61, .fieldAddr 70 (.tmp 7) 1, 0, "node.go:114", #[], none⟩ ?_ (.inl ⟨by rfl, ?_⟩) hS ?_
        rotate_left
        · (intro w hSw; (try dsimp only at hSw); go_simp; (try with_reducible rfl))
        try simp only [Act.put, sb, s0, sz]
        refine takeW 2 ⟨some 63, .move (.tmp 6), 102, "node.go:114", #[], none⟩ ?_ (.inl ⟨by rfl, ?_⟩) hS ?_
        rotate_left
        · (intro w hSw; (try dsimp only at hSw); go_simp; (try with_reducible rfl))
        try simp only [Act.put, sb, s0, sz]
        refine takeW 3 ⟨some 64, .fieldAddr 68 (.tmp 2) 0, 0, "node.go:114", #[], none⟩ ?_ (.inl ⟨by rfl, ?_⟩) hS ?_
        rotate_left
        · (intro w hSw; (try dsimp only at hSw); go_simp; (try with_reducible rfl))
        try simp only [Act.put, sb, s0, sz]
        refine takeW 4 ⟨some 65, .load 3 (.tmp 64), 3, "node.go:114", #[⟨3, .data⟩], none⟩ ?_ (.inl ⟨by rfl, ?_⟩) hS ?_
        rotate_left
        · (intro w hSw; (try dsimp only at hSw); go_simp; (try with_reducible rfl))
        try simp only [Act.put, sb, s0, sz]
        refine wpAnyH_ready (rs := [1, 5]) (by kernel_rfl) (by simp) ?_
        refine (AllReadyH.cons (o := { dst := some 62, op := Go.Op.load 63 (Go.Operand.tmp 61), type := 63, pos := "node.go:114", after := #[{ on := 0, ground := Go.Ground.data }], guard := none }) rfl (fun K hK => ?_) (AllReadyH.cons (o := { dst := some 66, op := Go.Op.call { callee := Go.Callee.value (Go.Operand.func 56), args := #[Go.Operand.tmp 63, Go.Operand.tmp 65], argTypes := #[102, 3] }, type := 9, pos := "node.go:114", after := #[{ on := 2, ground := Go.Ground.data }, { on := 4, ground := Go.Ground.data }], guard := none }) rfl (fun K hK => ?_) AllReadyH.nil))
        focus
          (first | (refine step_load1 hE4 2 rfl rfl (by rfl) (by rfl) (by simp [go_sem]) rfl ?_) | (refine step_load1 hE3 1 rfl rfl (by rfl) (by rfl) (by simp [go_sem]) rfl ?_) | (refine step_load1 hE.drew 1 rfl rfl (by rfl) (by rfl) (by simp [go_sem]) rfl ?_))
          refine hK.out _ _ (by first | exact (cellV hE4 (by repeat (first | exact List.Mem.head _ | refine List.Mem.tail _ ?_)) rfl) | exact (cellV hE3 (by repeat (first | exact List.Mem.head _ | refine List.Mem.tail _ ?_)) rfl) | exact (cellV hE.drew (by repeat (first | exact List.Mem.head _ | refine List.Mem.tail _ ?_)) rfl)) (fun hS => ?_)
          clear hK K
          try simp only [Act.put, sb, s0, sz]
          refine wpAnyH_ready (rs := [5]) (by kernel_rfl) (by simp) ?_
          refine (AllReadyH.cons (o := { dst := some 66, op := Go.Op.call { callee := Go.Callee.value (Go.Operand.func 56), args := #[Go.Operand.tmp 63, Go.Operand.tmp 65], argTypes := #[102, 3] }, type := 9, pos := "node.go:114", after := #[{ on := 2, ground := Go.Ground.data }, { on := 4, ground := Go.Ground.data }], guard := none }) rfl (fun K hK => ?_) AllReadyH.nil)
          (go_simp; refine (X1 hE.drew).mono ?_; rintro e w3 ⟨v, rfl, rfl, hE3⟩)
          refine hK.out _ _ (cellV hE3 (by repeat (first | exact List.Mem.head _ | refine List.Mem.tail _ ?_)) rfl) (fun hS => ?_)
          clear hK K
          try simp only [Act.put, sb, s0, sz]
          refine wpAnyH_ready (rs := [6]) (by kernel_rfl) (by simp) ?_
          refine (AllReadyH.cons (o := { dst := some 67, op := Go.Op.buildSlice 63 1 #[(0, Go.Operand.tmp 66)], type := 63, pos := "node.go:114", after := #[{ on := 5, ground := Go.Ground.data }], guard := none }) rfl (fun K hK => ?_) AllReadyH.nil)
          (go_simp; have hE4 := hE3.alloc (.cells #[.string ⟨x.toArray⟩] 9); generalize w3.alloc (.cells #[.string ⟨x.toArray⟩] 9) = w4 at hE4 ⊢)
          refine hK.out _ _ (cellV hE4 (by repeat (first | exact List.Mem.head _ | refine List.Mem.tail _ ?_)) rfl) (fun hS => ?_)
          clear hK K
          try simp only [Act.put, sb, s0, sz]
          refine wpAnyH_ready (rs := [7]) (by kernel_rfl) (by simp) ?_
          refine (AllReadyH.cons (o := { dst := some 68, op := Go.Op.call { callee := Go.Callee.builtin Go.Builtin.append, args := #[Go.Operand.tmp 62, Go.Operand.tmp 67], argTypes := #[63, 63] }, type := 63, pos := "node.go:114", after := #[{ on := 1, ground := Go.Ground.data }, { on := 6, ground := Go.Ground.data }, { on := 5, ground := Go.Ground.chain }], guard := none }) rfl (fun K hK => ?_) AllReadyH.nil)
          (refine step_appendG hE4 3 rfl (by rfl) (by rfl) (by rfl) (by rfl) Try.underlying63 info_str (by decide) (m := 1) (news := [strv x]) (reads_pt hE4 0 rfl (off := 0) (fun j u hu => by rw [Nat.zero_add, List.getElem?_toArray]; exact hu)) rfl (by simp [strv, Value.oneCell']) (by omega) (by omega) ?_; intro ao' c' w6 hE5; simp only [List.set_cons_zero, List.set_cons_succ] at hE5)
          refine hK.out _ _ (cellV hE5 (by repeat (first | exact List.Mem.head _ | refine List.Mem.tail _ ?_)) rfl) (fun hS => ?_)
          clear hK K
          try simp only [Act.put, sb, s0, sz]
          refine takeW 8 ⟨some 69, .fieldAddr 70 (.tmp 7) 1, 0, "node.go:114", #[⟨0, .phase⟩, ⟨1, .phase⟩, ⟨2, .phase⟩, ⟨3, .phase⟩, ⟨4, .phase⟩, ⟨5, .phase⟩, ⟨6, .phase⟩, ⟨7, .phase⟩], none⟩ ?_ (.inl ⟨by rfl, ?_⟩) hS ?_
          rotate_left
          · (intro w hSw; (try dsimp only at hSw); go_simp; (try with_reducible rfl))
          try simp only [Act.put, sb, s0, sz]
          refine wpAnyH_ready (rs := [9]) (by kernel_rfl) (by simp) ?_
          refine (AllReadyH.cons (o := { dst := none, op := Go.Op.store 63 (Go.Operand.tmp 69) (Go.Operand.tmp 68), type := 0, pos := "node.go:114", after := #[{ on := 8, ground := Go.Ground.data }, { on := 7, ground := Go.Ground.data }, { on := 7, ground := Go.Ground.chain }, { on := 0, ground := Go.Ground.phase }, { on := 1, ground := Go.Ground.phase }, { on := 2, ground := Go.Ground.phase }, { on := 3, ground := Go.Ground.phase }, { on := 4, ground := Go.Ground.phase }, { on := 5, ground := Go.Ground.phase }, { on := 6, ground := Go.Ground.phase }, { on := 7, ground := Go.Ground.phase }], guard := none }) rfl (fun K hK => ?_) AllReadyH.nil)
          (have f9 := hE5.frozen 2 rfl 1; have c9 := hE5.cell 2 rfl 1; go_simp)
          refine hK.out _ _ (cellV (hE5.setCell 2 rfl 1 (.slice ao' (ks.length + 1) c')) (by repeat (first | exact List.Mem.head _ | refine List.Mem.tail _ ?_)) rfl) (fun hS => ?_)
          clear hK K
          try simp only [Act.put, sb, s0, sz]
          refine wpAnyH_done (by kernel_rfl) ?_ _
        rotate_right
        focus
          (go_simp; refine (X1 hE.drew).mono ?_; rintro e w3 ⟨v, rfl, rfl, hE3⟩)
          refine hK.out _ _ (cellV hE3 (by repeat (first | exact List.Mem.head _ | refine List.Mem.tail _ ?_)) rfl) (fun hS => ?_)
          clear hK K
          try simp only [Act.put, sb, s0, sz]
          refine wpAnyH_ready (rs := [1, 6]) (by kernel_rfl) (by simp) ?_
          refine (AllReadyH.cons (o := { dst := some 62, op := Go.Op.load 63 (Go.Operand.tmp 61), type := 63, pos := "node.go:114", after := #[{ on := 0, ground := Go.Ground.data }], guard := none }) rfl (fun K hK => ?_) (AllReadyH.cons (o := { dst := some 67, op := Go.Op.buildSlice 63 1 #[(0, Go.Operand.tmp 66)], type := 63, pos := "node.go:114", after := #[{ on := 5, ground := Go.Ground.data }], guard := none }) rfl (fun K hK => ?_) AllReadyH.nil))
          focus
            (first | (refine step_load1 hE4 2 rfl rfl (by rfl) (by rfl) (by simp [go_sem]) rfl ?_) | (refine step_load1 hE3 1 rfl rfl (by rfl) (by rfl) (by simp [go_sem]) rfl ?_) | (refine step_load1 hE.drew 1 rfl rfl (by rfl) (by rfl) (by simp [go_sem]) rfl ?_))
            refine hK.out _ _ (by first | exact (cellV hE4 (by repeat (first | exact List.Mem.head _ | refine List.Mem.tail _ ?_)) rfl) | exact (cellV hE3 (by repeat (first | exact List.Mem.head _ | refine List.Mem.tail _ ?_)) rfl) | exact (cellV hE.drew (by repeat (first | exact List.Mem.head _ | refine List.Mem.tail _ ?_)) rfl)) (fun hS => ?_)
            clear hK K
            try simp only [Act.put, sb, s0, sz]
            refine wpAnyH_ready (rs := [6]) (by kernel_rfl) (by simp) ?_
            refine (AllReadyH.cons (o := { dst := some 67, op := Go.Op.buildSlice 63 1 #[(0, Go.Operand.tmp 66)], type := 63, pos := "node.go:114", after := #[{ on := 5, ground := Go.Ground.data }], guard := none }) rfl (fun K hK => ?_) AllReadyH.nil)
            (go_simp; have hE4 := hE3.alloc (.cells #[.string ⟨x.toArray⟩] 9); generalize w3.alloc (.cells #[.string ⟨x.toArray⟩] 9) = w4 at hE4 ⊢)
            refine hK.out _ _ (cellV hE4 (by repeat (first | exact List.Mem.head _ | refine List.Mem.tail _ ?_)) rfl) (fun hS => ?_)
            clear hK K
            try simp only [Act.put, sb, s0, sz]
            refine wpAnyH_ready (rs := [7]) (by kernel_rfl) (by simp) ?_
            refine (AllReadyH.cons (o := { dst := some 68, op := Go.Op.call { callee := Go.Callee.builtin Go.Builtin.append, args := #[Go.Operand.tmp 62, Go.Operand.tmp 67], argTypes := #[63, 63] }, type := 63, pos := "node.go:114", after := #[{ on := 1, ground := Go.Ground.data }, { on := 6, ground := Go.Ground.data }, { on := 5, ground := Go.Ground.chain }], guard := none }) rfl (fun K hK => ?_) AllReadyH.nil)
            (refine step_appendG hE4 3 rfl (by rfl) (by rfl) (by rfl) (by rfl) Try.underlying63 info_str (by decide) (m := 1) (news := [strv x]) (reads_pt hE4 0 rfl (off := 0) (fun j u hu => by rw [Nat.zero_add, List.getElem?_toArray]; exact hu)) rfl (by simp [strv, Value.oneCell']) (by omega) (by omega) ?_; intro ao' c' w6 hE5; simp only [List.set_cons_zero, List.set_cons_succ] at hE5)
            refine hK.out _ _ (cellV hE5 (by repeat (first | exact List.Mem.head _ | refine List.Mem.tail _ ?_)) rfl) (fun hS => ?_)
            clear hK K
            try simp only [Act.put, sb, s0, sz]
            refine takeW 8 ⟨some 69, .fieldAddr 70 (.tmp 7) 1, 0, "node.go:114", #[⟨0, .phase⟩, ⟨1, .phase⟩, ⟨2, .phase⟩, ⟨3, .phase⟩, ⟨4, .phase⟩, ⟨5, .phase⟩, ⟨6, .phase⟩, ⟨7, .phase⟩], none⟩ ?_ (.inl ⟨by rfl, ?_⟩) hS ?_
            rotate_left
            · (intro w hSw; (try dsimp only at hSw); go_simp; (try with_reducible rfl))
            try simp only [Act.put, sb, s0, sz]
            refine wpAnyH_ready (rs := [9]) (by kernel_rfl) (by simp) ?_
            refine (AllReadyH.cons (o := { dst := none, op := Go.Op.store 63 (Go.Operand.tmp 69) (Go.Operand.tmp 68), type := 0, pos := "node.go:114", after := #[{ on := 8, ground := Go.Ground.data }, { on := 7, ground := Go.Ground.data }, { on := 7, ground := Go.Ground.chain }, { on := 0, ground := Go.Ground.phase }, { on := 1, ground := Go.Ground.phase }, { on := 2, ground := Go.Ground.phase }, { on := 3, ground := Go.Ground.phase }, { on := 4, ground := Go.Ground.phase }, { on := 5, ground := Go.Ground.phase }, { on := 6, ground := Go.Ground.phase }, { on := 7, ground := Go.Ground.phase }], guard := none }) rfl (fun K hK => ?_) AllReadyH.nil)
            (have f9 := hE5.frozen 2 rfl 1; have c9 := hE5.cell 2 rfl 1; go_simp)
            refine hK.out _ _ (cellV (hE5.setCell 2 rfl 1 (.slice ao' (ks.length + 1) c')) (by repeat (first | exact List.Mem.head _ | refine List.Mem.tail _ ?_)) rfl) (fun hS => ?_)
            clear hK K
            try simp only [Act.put, sb, s0, sz]
            refine wpAnyH_done (by kernel_rfl) ?_ _
          rotate_right
          focus
            (go_simp; have hE4 := hE3.alloc (.cells #[.string ⟨x.toArray⟩] 9); generalize w3.alloc (.cells #[.string ⟨x.toArray⟩] 9) = w4 at hE4 ⊢)
            refine hK.out _ _ (cellV hE4 (by repeat (first | exact List.Mem.head _ | refine List.Mem.tail _ ?_)) rfl) (fun hS => ?_)
            clear hK K
            try simp only [Act.put, sb, s0, sz]
            refine wpAnyH_ready (rs := [1]) (by kernel_rfl) (by simp) ?_
            refine (AllReadyH.cons (o := { dst := some 62, op := Go.Op.load 63 (Go.Operand.tmp 61), type := 63, pos := "node.go:114", after := #[{ on := 0, ground := Go.Ground.data }], guard := none }) rfl (fun K hK => ?_) AllReadyH.nil)
            (first | (refine step_load1 hE4 2 rfl rfl (by rfl) (by rfl) (by simp [go_sem]) rfl ?_) | (refine step_load1 hE3 1 rfl rfl (by rfl) (by rfl) (by simp [go_sem]) rfl ?_) | (refine step_load1 hE.drew 1 rfl rfl (by rfl) (by rfl) (by simp [go_sem]) rfl ?_))
            refine hK.out _ _ (by first | exact (cellV hE4 (by repeat (first | exact List.Mem.head _ | refine List.Mem.tail _ ?_)) rfl) | exact (cellV hE3 (by repeat (first | exact List.Mem.head _ | refine List.Mem.tail _ ?_)) rfl) | exact (cellV hE.drew (by repeat (first | exact List.Mem.head _ | refine List.Mem.tail _ ?_)) rfl)) (fun hS => ?_)
            clear hK K
            try simp only [Act.put, sb, s0, sz]
            refine wpAnyH_ready (rs := [7]) (by kernel_rfl) (by simp) ?_
            refine (AllReadyH.cons (o := { dst := some 68, op := Go.Op.call { callee := Go.Callee.builtin Go.Builtin.append, args := #[Go.Operand.tmp 62, Go.Operand.tmp 67], argTypes := #[63, 63] }, type := 63, pos := "node.go:114", after := #[{ on := 1, ground := Go.Ground.data }, { on := 6, ground := Go.Ground.data }, { on := 5, ground := Go.Ground.chain }], guard := none }) rfl (fun K hK => ?_) AllReadyH.nil)
            (refine step_appendG hE4 3 rfl (by rfl) (by rfl) (by rfl) (by rfl) Try.underlying63 info_str (by decide) (m := 1) (news := [strv x]) (reads_pt hE4 0 rfl (off := 0) (fun j u hu => by rw [Nat.zero_add, List.getElem?_toArray]; exact hu)) rfl (by simp [strv, Value.oneCell']) (by omega) (by omega) ?_; intro ao' c' w6 hE5; simp only [List.set_cons_zero, List.set_cons_succ] at hE5)
            refine hK.out _ _ (cellV hE5 (by repeat (first | exact List.Mem.head _ | refine List.Mem.tail _ ?_)) rfl) (fun hS => ?_)
            clear hK K
            try simp only [Act.put, sb, s0, sz]
            refine takeW 8 ⟨some 69, .fieldAddr 70 (.tmp 7) 1, 0, "node.go:114", #[⟨0, .phase⟩, ⟨1, .phase⟩, ⟨2, .phase⟩, ⟨3, .phase⟩, ⟨4, .phase⟩, ⟨5, .phase⟩, ⟨6, .phase⟩, ⟨7, .phase⟩], none⟩ ?_ (.inl ⟨by rfl, ?_⟩) hS ?_
            rotate_left
            · (intro w hSw; (try dsimp only at hSw); go_simp; (try with_reducible rfl))
            try simp only [Act.put, sb, s0, sz]
            refine wpAnyH_ready (rs := [9]) (by kernel_rfl) (by simp) ?_
            refine (AllReadyH.cons (o := { dst := none, op := Go.Op.store 63 (Go.Operand.tmp 69) (Go.Operand.tmp 68), type := 0, pos := "node.go:114", after := #[{ on := 8, ground := Go.Ground.data }, { on := 7, ground := Go.Ground.data }, { on := 7, ground := Go.Ground.chain }, { on := 0, ground := Go.Ground.phase }, { on := 1, ground := Go.Ground.phase }, { on := 2, ground := Go.Ground.phase }, { on := 3, ground := Go.Ground.phase }, { on := 4, ground := Go.Ground.phase }, { on := 5, ground := Go.Ground.phase }, { on := 6, ground := Go.Ground.phase }, { on := 7, ground := Go.Ground.phase }], guard := none }) rfl (fun K hK => ?_) AllReadyH.nil)
            (have f9 := hE5.frozen 2 rfl 1; have c9 := hE5.cell 2 rfl 1; go_simp)
            refine hK.out _ _ (cellV (hE5.setCell 2 rfl 1 (.slice ao' (ks.length + 1) c')) (by repeat (first | exact List.Mem.head _ | refine List.Mem.tail _ ?_)) rfl) (fun hS => ?_)
            clear hK K
            try simp only [Act.put, sb, s0, sz]
            refine wpAnyH_done (by kernel_rfl) ?_ _
        all_goals
          have hE9 := (hE5.setCell 2 rfl 1 (.slice ao' (ks.length + 1) c')).tail
          simp only [List.set_cons_zero, List.set_cons_succ, List.setIfInBounds_toArray] at hE9
          generalize w6.setCell ⟨b7, 1, none⟩ (.slice ao' (ks.length + 1) c') = wz at hE9 ⊢
          have e1 : ks.length + 1 = (ks ++ [x]).length := by simp
          have e2 : ks.map strv ++ [strv x] = (ks ++ [x]).map strv := by simp
          rw [e2, e1] at hE9
          have hkl : (ks ++ [x]).length ≤ k + 1 := by rw [← e1]; omega
          clear e1 e2
          generalize ks ++ [x] = ks2 at *
          go_wp2_with (first
            | go_skip
            | ((with_reducible (show Go.wpList _ _ _ (Go.Oper.mk _ (.load 4 _) _ _ _ _ :: _) _ _)); refine wpl_load1 hE9 1 rfl rfl rfl rfl (by simp [go_sem]) rfl ?_))
          refine wp_region_held_drew (S := (fun w' => (w'.cell? ⟨b2, 1, none⟩ = some (.int .i64 vw)))) (by kernel_rfl) (cellV hE9.drew (by repeat (first | exact List.Mem.head _ | refine List.Mem.tail _ ?_)) rfl) (fun hS => ?_)
          refine takeW 0 ⟨some 72, .fieldAddr 70 (.tmp 7) 2, 0, "node.go:116", #[], none⟩ ?_ (.inl ⟨by rfl, ?_⟩) hS ?_
          rotate_left
          · (intro w hSw; (try dsimp only at hSw); go_simp; (try with_reducible rfl))
          try simp only [Act.put, sb, s0, sz]
          refine takeW 2 ⟨some 74, .move (.tmp 6), 102, "node.go:116", #[], none⟩ ?_ (.inl ⟨by rfl, ?_⟩) hS ?_
          rotate_left
          · (intro w hSw; (try dsimp only at hSw); go_simp; (try with_reducible rfl))
          try simp only [Act.put, sb, s0, sz]
          refine takeW 3 ⟨some 75, .fieldAddr 68 (.tmp 2) 1, 0, "node.go:116", #[], none⟩ ?_ (.inl ⟨by rfl, ?_⟩) hS ?_
          rotate_left
          · (intro w hSw; (try dsimp only at hSw); go_simp; (try with_reducible rfl))
          try simp only [Act.put, sb, s0, sz]
          refine takeW 4 ⟨some 76, .load 3 (.tmp 75), 3, "node.go:116", #[⟨3, .data⟩], none⟩ ?_ (.inl ⟨by rfl, ?_⟩) hS ?_
          rotate_left
          · (intro w hSw; (try dsimp only at hSw); go_simp; (try with_reducible rfl))
          try simp only [Act.put, sb, s0, sz]
          refine wpAnyH_ready (rs := [1, 5]) (by kernel_rfl) (by simp) ?_
          refine (AllReadyH.cons (o := { dst := some 73, op := Go.Op.load 63 (Go.Operand.tmp 72), type := 63, pos := "node.go:116", after := #[{ on := 0, ground := Go.Ground.data }], guard := none }) rfl (fun K hK => ?_) (AllReadyH.cons (o := { dst := some 77, op := Go.Op.call { callee := Go.Callee.value (Go.Operand.func 56), args := #[Go.Operand.tmp 74, Go.Operand.tmp 76], argTypes := #[102, 3] }, type := 9, pos := "node.go:116", after := #[{ on := 2, ground := Go.Ground.data }, { on := 4, ground := Go.Ground.data }], guard := none }) rfl (fun K hK => ?_) AllReadyH.nil))
          focus
            (first | (refine step_load1 hEb 2 rfl rfl (by rfl) (by rfl) (by simp [go_sem]) rfl ?_) | (refine step_load1 hEa 1 rfl rfl (by rfl) (by rfl) (by simp [go_sem]) rfl ?_) | (refine step_load1 hE9.drew 1 rfl rfl (by rfl) (by rfl) (by simp [go_sem]) rfl ?_))
            refine hK.out _ _ (by first | exact (cellV hEb (by repeat (first | exact List.Mem.head _ | refine List.Mem.tail _ ?_)) rfl) | exact (cellV hEa (by repeat (first | exact List.Mem.head _ | refine List.Mem.tail _ ?_)) rfl) | exact (cellV hE9.drew (by repeat (first | exact List.Mem.head _ | refine List.Mem.tail _ ?_)) rfl)) (fun hS => ?_)
            clear hK K
            try simp only [Act.put, sb, s0, sz]
            refine wpAnyH_ready (rs := [5]) (by kernel_rfl) (by simp) ?_
            refine (AllReadyH.cons (o := { dst := some 77, op := Go.Op.call { callee := Go.Callee.value (Go.Operand.func 56), args := #[Go.Operand.tmp 74, Go.Operand.tmp 76], argTypes := #[102, 3] }, type := 9, pos := "node.go:116", after := #[{ on := 2, ground := Go.Ground.data }, { on := 4, ground := Go.Ground.data }], guard := none }) rfl (fun K hK => ?_) AllReadyH.nil)
            (go_simp; refine (X2 hE9.drew).mono ?_; rintro e wa ⟨v, rfl, rfl, hEa⟩)
            refine hK.out _ _ (cellV hEa (by repeat (first | exact List.Mem.head _ | refine List.Mem.tail _ ?_)) rfl) (fun hS => ?_)
            clear hK K
            try simp only [Act.put, sb, s0, sz]
            refine wpAnyH_ready (rs := [6]) (by kernel_rfl) (by simp) ?_
            refine (AllReadyH.cons (o := { dst := some 78, op := Go.Op.buildSlice 63 1 #[(0, Go.Operand.tmp 77)], type := 63, pos := "node.go:116", after := #[{ on := 5, ground := Go.Ground.data }], guard := none }) rfl (fun K hK => ?_) AllReadyH.nil)
            (go_simp; have hEb := hEa.alloc (.cells #[.string ⟨y.toArray⟩] 9); generalize wa.alloc (.cells #[.string ⟨y.toArray⟩] 9) = wb at hEb ⊢)
            refine hK.out _ _ (cellV hEb (by repeat (first | exact List.Mem.head _ | refine List.Mem.tail _ ?_)) rfl) (fun hS => ?_)
            clear hK K
            try simp only [Act.put, sb, s0, sz]
            refine wpAnyH_ready (rs := [7]) (by kernel_rfl) (by simp) ?_
            refine (AllReadyH.cons (o := { dst := some 79, op := Go.Op.call { callee := Go.Callee.builtin Go.Builtin.append, args := #[Go.Operand.tmp 73, Go.Operand.tmp 78], argTypes := #[63, 63] }, type := 63, pos := "node.go:116", after := #[{ on := 1, ground := Go.Ground.data }, { on := 6, ground := Go.Ground.data }, { on := 5, ground := Go.Ground.chain }], guard := none }) rfl (fun K hK => ?_) AllReadyH.nil)
            (refine step_appendG hEb 4 rfl (by rfl) (by rfl) (by rfl) (by rfl) Try.underlying63 info_str (by decide) (m := 1) (news := [strv y]) (reads_pt hEb 0 rfl (off := 0) (fun j u hu => by rw [Nat.zero_add, List.getElem?_toArray]; exact hu)) rfl (by simp [strv, Value.oneCell']) (by omega) (by omega) ?_; intro ao2 c2 wc hEc; simp only [List.set_cons_zero, List.set_cons_succ] at hEc)
            refine hK.out _ _ (cellV hEc (by repeat (first | exact List.Mem.head _ | refine List.Mem.tail _ ?_)) rfl) (fun hS => ?_)
            clear hK K
            try simp only [Act.put, sb, s0, sz]
            refine takeW 8 ⟨some 80, .fieldAddr 70 (.tmp 7) 2, 0, "node.go:116", #[⟨0, .phase⟩, ⟨1, .phase⟩, ⟨2, .phase⟩, ⟨3, .phase⟩, ⟨4, .phase⟩, ⟨5, .phase⟩, ⟨6, .phase⟩, ⟨7, .phase⟩], none⟩ ?_ (.inl ⟨by rfl, ?_⟩) hS ?_
            rotate_left
            · (intro w hSw; (try dsimp only at hSw); go_simp; (try with_reducible rfl))
            try simp only [Act.put, sb, s0, sz]
            refine wpAnyH_ready (rs := [9]) (by kernel_rfl) (by simp) ?_
            refine (AllReadyH.cons (o := { dst := none, op := Go.Op.store 63 (Go.Operand.tmp 80) (Go.Operand.tmp 79), type := 0, pos := "node.go:116", after := #[{ on := 8, ground := Go.Ground.data }, { on := 7, ground := Go.Ground.data }, { on := 7, ground := Go.Ground.chain }, { on := 0, ground := Go.Ground.phase }, { on := 1, ground := Go.Ground.phase }, { on := 2, ground := Go.Ground.phase }, { on := 3, ground := Go.Ground.phase }, { on := 4, ground := Go.Ground.phase }, { on := 5, ground := Go.Ground.phase }, { on := 6, ground := Go.Ground.phase }, { on := 7, ground := Go.Ground.phase }], guard := none }) rfl (fun K hK => ?_) AllReadyH.nil)
            (have f9 := hEc.frozen 2 rfl 2; have c9 := hEc.cell 2 rfl 2; go_simp)
            refine hK.out _ _ (cellV (hEc.setCell 2 rfl 2 (.slice ao2 (vs.length + 1) c2)) (by repeat (first | exact List.Mem.head _ | refine List.Mem.tail _ ?_)) rfl) (fun hS => ?_)
            clear hK K
            try simp only [Act.put, sb, s0, sz]
            refine wpAnyH_done (by kernel_rfl) ?_ _
          rotate_right
          focus
            (go_simp; refine (X2 hE9.drew).mono ?_; rintro e wa ⟨v, rfl, rfl, hEa⟩)
            refine hK.out _ _ (cellV hEa (by repeat (first | exact List.Mem.head _ | refine List.Mem.tail _ ?_)) rfl) (fun hS => ?_)
            clear hK K
            try simp only [Act.put, sb, s0, sz]
            refine wpAnyH_ready (rs := [1, 6]) (by kernel_rfl) (by simp) ?_
            refine (AllReadyH.cons (o := { dst := some 73, op := Go.Op.load 63 (Go.Operand.tmp 72), type := 63, pos := "node.go:116", after := #[{ on := 0, ground := Go.Ground.data }], guard := none }) rfl (fun K hK => ?_) (AllReadyH.cons (o := { dst := some 78, op := Go.Op.buildSlice 63 1 #[(0, Go.Operand.tmp 77)], type := 63, pos := "node.go:116", after := #[{ on := 5, ground := Go.Ground.data }], guard := none }) rfl (fun K hK => ?_) AllReadyH.nil))
            focus
              (first | (refine step_load1 hEb 2 rfl rfl (by rfl) (by rfl) (by simp [go_sem]) rfl ?_) | (refine step_load1 hEa 1 rfl rfl (by rfl) (by rfl) (by simp [go_sem]) rfl ?_) | (refine step_load1 hE9.drew 1 rfl rfl (by rfl) (by rfl) (by simp [go_sem]) rfl ?_))
              refine hK.out _ _ (by first | exact (cellV hEb (by repeat (first | exact List.Mem.head _ | refine List.Mem.tail _ ?_)) rfl) | exact (cellV hEa (by repeat (first | exact List.Mem.head _ | refine List.Mem.tail _ ?_)) rfl) | exact (cellV hE9.drew (by repeat (first | exact List.Mem.head _ | refine List.Mem.tail _ ?_)) rfl)) (fun hS => ?_)
              clear hK K
              try simp only [Act.put, sb, s0, sz]
              refine wpAnyH_ready (rs := [6]) (by kernel_rfl) (by simp) ?_
              refine (AllReadyH.cons (o := { dst := some 78, op := Go.Op.buildSlice 63 1 #[(0, Go.Operand.tmp 77)], type := 63, pos := "node.go:116", after := #[{ on := 5, ground := Go.Ground.data }], guard := none }) rfl (fun K hK => ?_) AllReadyH.nil)
              (go_simp; have hEb := hEa.alloc (.cells #[.string ⟨y.toArray⟩] 9); generalize wa.alloc (.cells #[.string ⟨y.toArray⟩] 9) = wb at hEb ⊢)
              refine hK.out _ _ (cellV hEb (by repeat (first | exact List.Mem.head _ | refine List.Mem.tail _ ?_)) rfl) (fun hS => ?_)
              clear hK K
              try simp only [Act.put, sb, s0, sz]
              refine wpAnyH_ready (rs := [7]) (by kernel_rfl) (by simp) ?_
              refine (AllReadyH.cons (o := { dst := some 79, op := Go.Op.call { callee := Go.Callee.builtin Go.Builtin.append, args := #[Go.Operand.tmp 73, Go.Operand.tmp 78], argTypes := #[63, 63] }, type := 63, pos := "node.go:116", after := #[{ on := 1, ground := Go.Ground.data }, { on := 6, ground := Go.Ground.data }, { on := 5, ground := Go.Ground.chain }], guard := none }) rfl (fun K hK => ?_) AllReadyH.nil)
              (refine step_appendG hEb 4 rfl (by rfl) (by rfl) (by rfl) (by rfl) Try.underlying63 info_str (by decide) (m := 1) (news := [strv y]) (reads_pt hEb 0 rfl (off := 0) (fun j u hu => by rw [Nat.zero_add, List.getElem?_toArray]; exact hu)) rfl (by simp [strv, Value.oneCell']) (by omega) (by omega) ?_; intro ao2 c2 wc hEc; simp only [List.set_cons_zero, List.set_cons_succ] at hEc)
              refine hK.out _ _ (cellV hEc (by repeat (first | exact List.Mem.head _ | refine List.Mem.tail _ ?_)) rfl) (fun hS => ?_)
              clear hK K
              try simp only [Act.put, sb, s0, sz]
              refine takeW 8 ⟨some 80, .fieldAddr 70 (.tmp 7) 2, 0, "node.go:116", #[⟨0, .phase⟩, ⟨1, .phase⟩, ⟨2, .phase⟩, ⟨3, .phase⟩, ⟨4, .phase⟩, ⟨5, .phase⟩, ⟨6, .phase⟩, ⟨7, .phase⟩], none⟩ ?_ (.inl ⟨by rfl, ?_⟩) hS ?_
              rotate_left
              · (intro w hSw; (try dsimp only at hSw); go_simp; (try with_reducible rfl))
              try simp only [Act.put, sb, s0, sz]
              refine wpAnyH_ready (rs := [9]) (by kernel_rfl) (by simp) ?_
              refine (AllReadyH.cons (o := { dst := none, op := Go.Op.store 63 (Go.Operand.tmp 80) (Go.Operand.tmp 79), type := 0, pos := "node.go:116", after := #[{ on := 8, ground := Go.Ground.data }, { on := 7, ground := Go.Ground.data }, { on := 7, ground := Go.Ground.chain }, { on := 0, ground := Go.Ground.phase }, { on := 1, ground := Go.Ground.phase }, { on := 2, ground := Go.Ground.phase }, { on := 3, ground := Go.Ground.phase }, { on := 4, ground := Go.Ground.phase }, { on := 5, ground := Go.Ground.phase }, { on := 6, ground := Go.Ground.phase }, { on := 7, ground := Go.Ground.phase }], guard := none }) rfl (fun K hK => ?_) AllReadyH.nil)
              (have f9 := hEc.frozen 2 rfl 2; have c9 := hEc.cell 2 rfl 2; go_simp)
              refine hK.out _ _ (cellV (hEc.setCell 2 rfl 2 (.slice ao2 (vs.length + 1) c2)) (by repeat (first | exact List.Mem.head _ | refine List.Mem.tail _ ?_)) rfl) (fun hS => ?_)
              clear hK K
              try simp only [Act.put, sb, s0, sz]
              refine wpAnyH_done (by kernel_rfl) ?_ _
            rotate_right
            focus
              (go_simp; have hEb := hEa.alloc (.cells #[.string ⟨y.toArray⟩] 9); generalize wa.alloc (.cells #[.string ⟨y.toArray⟩] 9) = wb at hEb ⊢)
              refine hK.out _ _ (cellV hEb (by repeat (first | exact List.Mem.head _ | refine List.Mem.tail _ ?_)) rfl) (fun hS => ?_)
              clear hK K
              try simp only [Act.put, sb, s0, sz]
              refine wpAnyH_ready (rs := [1]) (by kernel_rfl) (by simp) ?_
              refine (AllReadyH.cons (o := { dst := some 73, op := Go.Op.load 63 (Go.Operand.tmp 72), type := 63, pos := "node.go:116", after := #[{ on := 0, ground := Go.Ground.data }], guard := none }) rfl (fun K hK => ?_) AllReadyH.nil)
              (first | (refine step_load1 hEb 2 rfl rfl (by rfl) (by rfl) (by simp [go_sem]) rfl ?_) | (refine step_load1 hEa 1 rfl rfl (by rfl) (by rfl) (by simp [go_sem]) rfl ?_) | (refine step_load1 hE9.drew 1 rfl rfl (by rfl) (by rfl) (by simp [go_sem]) rfl ?_))
              refine hK.out _ _ (by first | exact (cellV hEb (by repeat (first | exact List.Mem.head _ | refine List.Mem.tail _ ?_)) rfl) | exact (cellV hEa (by repeat (first | exact List.Mem.head _ | refine List.Mem.tail _ ?_)) rfl) | exact (cellV hE9.drew (by repeat (first | exact List.Mem.head _ | refine List.Mem.tail _ ?_)) rfl)) (fun hS => ?_)
              clear hK K
              try simp only [Act.put, sb, s0, sz]
              refine wpAnyH_ready (rs := [7]) (by kernel_rfl) (by simp) ?_
              refine (AllReadyH.cons (o := { dst := some 79, op := Go.Op.call { callee := Go.Callee.builtin Go.Builtin.append, args := #[Go.Operand.tmp 73, Go.Operand.tmp 78], argTypes := #[63, 63] }, type := 63, pos := "node.go:116", after := #[{ on := 1, ground := Go.Ground.data }, { on := 6, ground := Go.Ground.data }, { on := 5, ground := Go.Ground.chain }], guard := none }) rfl (fun K hK => ?_) AllReadyH.nil)
              (refine step_appendG hEb 4 rfl (by rfl) (by rfl) (by rfl) (by rfl) Try.underlying63 info_str (by decide) (m := 1) (news := [strv y]) (reads_pt hEb 0 rfl (off := 0) (fun j u hu => by rw [Nat.zero_add, List.getElem?_toArray]; exact hu)) rfl (by simp [strv, Value.oneCell']) (by omega) (by omega) ?_; intro ao2 c2 wc hEc; simp only [List.set_cons_zero, List.set_cons_succ] at hEc)
              refine hK.out _ _ (cellV hEc (by repeat (first | exact List.Mem.head _ | refine List.Mem.tail _ ?_)) rfl) (fun hS => ?_)
              clear hK K
              try simp only [Act.put, sb, s0, sz]
              refine takeW 8 ⟨some 80, .fieldAddr 70 (.tmp 7) 2, 0, "node.go:116", #[⟨0, .phase⟩, ⟨1, .phase⟩, ⟨2, .phase⟩, ⟨3, .phase⟩, ⟨4, .phase⟩, ⟨5, .phase⟩, ⟨6, .phase⟩, ⟨7, .phase⟩], none⟩ ?_ (.inl ⟨by rfl, ?_⟩) hS ?_
              rotate_left
              · (intro w hSw; (try dsimp only at hSw); go_simp; (try with_reducible rfl))
              try simp only [Act.put, sb, s0, sz]
              refine wpAnyH_ready (rs := [9]) (by kernel_rfl) (by simp) ?_
              refine (AllReadyH.cons (o := { dst := none, op := Go.Op.store 63 (Go.Operand.tmp 80) (Go.Operand.tmp 79), type := 0, pos := "node.go:116", after := #[{ on := 8, ground := Go.Ground.data }, { on := 7, ground := Go.Ground.data }, { on := 7, ground := Go.Ground.chain }, { on := 0, ground := Go.Ground.phase }, { on := 1, ground := Go.Ground.phase }, { on := 2, ground := Go.Ground.phase }, { on := 3, ground := Go.Ground.phase }, { on := 4, ground := Go.Ground.phase }, { on := 5, ground := Go.Ground.phase }, { on := 6, ground := Go.Ground.phase }, { on := 7, ground := Go.Ground.phase }], guard := none }) rfl (fun K hK => ?_) AllReadyH.nil)
              (have f9 := hEc.frozen 2 rfl 2; have c9 := hEc.cell 2 rfl 2; go_simp)
              refine hK.out _ _ (cellV (hEc.setCell 2 rfl 2 (.slice ao2 (vs.length + 1) c2)) (by repeat (first | exact List.Mem.head _ | refine List.Mem.tail _ ?_)) rfl) (fun hS => ?_)
              clear hK K
              try simp only [Act.put, sb, s0, sz]
              refine wpAnyH_done (by kernel_rfl) ?_ _
          all_goals
            have hEd := (hEc.setCell 2 rfl 2 (.slice ao2 (vs.length + 1) c2)).tail
            simp only [List.set_cons_zero, List.set_cons_succ, List.setIfInBounds_toArray] at hEd
            generalize wc.setCell ⟨b7, 2, none⟩ (.slice ao2 (vs.length + 1) c2) = wy at hEd ⊢
            have e1 : vs.length + 1 = (vs ++ [y]).length := by simp
            have e2 : vs.map strv ++ [strv y] = (vs ++ [y]).map strv := by simp
            rw [e2, e1] at hEd
            have hvl : (vs ++ [y]).length ≤ k + 1 := by rw [← e1]; omega
            clear e1 e2
            generalize vs ++ [y] = vs2 at *
            go_wp2
            go_roundw
            case rel => exact ⟨k + 1, ⟨ks2, vs2, sy⟩, ao', ao2, c', c2, hlt, by first | rfl | simp, HR.out, ly, hkl, hvl, hEd⟩
            case measure => simp [intOf] <;> omega
      · have HR := SL.hid (show (⟨ks, vs, s⟩ : Es) = RE by
          rw [← hR]
          by_cases hlt : k < nk
          · exact (rdE_stop (by show (s.err == 0) = false; simpa using fun h => hgo ⟨hlt, by simpa using h⟩)).symm
          · rw [show nk - k = 0 by omega]; rfl)
        clear hR
        have Hnode := SL.hid (show nodeR kw vw b = ⟨true, ks, vs, kids⟩ by rw [Hnode0.out, ← HR.out, HRK.out])
        have Hok := SL.hid (show okR kw vw b = ((s.err == 0) && (mayB kw vw ⟨true, ks, vs, kids⟩ && (pageU ⟨true, ks, vs, kids⟩ == b))) by rw [Hok0.out, Hnode.out, ← HR.out])
        obtain ⟨pe, hpe⟩ : ∃ pe, pe = putE kw vw ⟨true, ks, vs, kids⟩ := ⟨_, rfl⟩
        obtain ⟨pu, hpu⟩ : ∃ pu, pu = putU kw vw ⟨true, ks, vs, kids⟩ := ⟨_, rfl⟩
        have Hpe := SL.hid hpe.symm
        have Hpu := SL.hid hpu.symm
        have Hmb := SL.hid (show mayB kw vw ⟨true, ks, vs, kids⟩ = (pe == 0) by
          rw [hpe, putE, mayN, hr, Bool.true_and]
          cases mayB kw vw ⟨true, ks, vs, kids⟩ <;> rfl)
        have Hpg := SL.hid (show (pe == 0) = true → pageU ⟨true, ks, vs, kids⟩ = pu from fun h => by
          rw [← Hmb.out] at h
          rw [hpu, putU, mayN, hr, h]; rfl)
        clear hpe hpu
        have bk : ks.length ≤ 100000 := by omega
        have bv : vs.length ≤ 100000 := by omega
        have hgo' : k < nk → (s.err == 0) = false := fun hlt => by simpa using fun h => hgo ⟨hlt, by simpa using h⟩
        clear hgo
        cases d1 : decide (k < nk) with
        | true =>
          have c1 := hgo' (of_decide_eq_true d1)
          clear hgo'
          have c1' : (s.err != 0) = true := by simp only [bne, c1]; rfl
          have Rr := SL.hid (resN_bad hr (b := b) (by rw [Hok.out, c1]; rfl))
          go_wp2_with (first
            | (go_at_call 52; have H := Err_any hE; refine H.mono ?_; clear H; rintro e w9 ⟨rfl, rfl⟩)
            | go_skip
            | ((with_reducible (show Go.wpList _ _ _ (Go.Oper.mk _ (.load 68 (.tmp 2)) _ _ _ _ :: _) _ _)); refine wpl_loadW hE 6 rfl rfl rfl rfl Try.isAgg68 Try.sizeOf68 (xs := [.int .i64 kw, .int .i64 vw]) rfl ?_)
            | ((with_reducible (show Go.wpList _ _ _ (Go.Oper.mk _ (.load 70 (.tmp 7)) _ _ _ _ :: _) _ _)); refine wpl_loadW hE 1 rfl rfl rfl rfl Try.isAgg70 Try.sizeOf70 (xs := [.bool true, .slice ka ks.length kc, .slice va vs.length vc, .slice ia kids.length ic]) rfl ?_)
            | (go_at_call 33; have H := Put_node (kw := kw) (vw := vw) (leaf := true) bk bv bi hE (fun W h => reads_row h 2 rfl) (fun W h => reads_row h 3 rfl) (fun W h => reads_row h 4 rfl); rw [Hpu.out, Hpe.out] at H; refine H.mono ?_; clear H hE; rintro e w8 ⟨v, rfl, pa, pc, rfl, hE8⟩)
            | (go_at_call 52; have H := Err_any (hE8.front 1 rfl); refine H.mono ?_; clear H; rintro e w9 ⟨rfl, rfl⟩)
            | (go_at_call 60; have H := Equal_any (reads_row hE8 0 rfl) (hkb _ (hE8.suf (by repeat (first | exact List.suffix_refl _ | refine List.IsSuffix.trans ?_ (List.suffix_cons _ _))))); rw [Hq.out] at H; refine H.mono ?_; clear H; rintro e w9 ⟨rfl, rfl⟩)
            | ((with_reducible (show Go.wpList _ _ _ (Go.Oper.mk _ (.store _ _ _) _ _ _ _ :: _) _ _)); refine wpl_storeW hE8 6 rfl rfl rfl (xs := [.bool false, .slice none 0 0, .slice none 0 0, .slice none 0 0]) rfl rfl Try.sizeOf70 rfl (by simp [Value.oneCell']) rfl ?_; clear hE8; intro w hE9; simp only [List.set_cons_zero, List.set_cons_succ] at hE9))
          refine bodyPost_ret (results_cell2 rfl hE9 6 rfl rfl Try.isAgg70 Try.sizeOf70 rfl rfl) rfl ?_
          exact ⟨_, rfl, takeRes_zero Rr.out (hE9.suf ⟨[_, _, _, _, _, _, _, _], rfl⟩)⟩
        | false =>
          clear hgo'
          cases c1 : (s.err == 0) with
          | false =>
            have c1' : (s.err != 0) = true := by simp only [bne, c1]; rfl
            have Rr := SL.hid (resN_bad hr (b := b) (by rw [Hok.out, c1]; rfl))
            go_wp2_with (first
              | go_skip
              | ((with_reducible (show Go.wpList _ _ _ (Go.Oper.mk _ (.load 68 (.tmp 2)) _ _ _ _ :: _) _ _)); refine wpl_loadW hE 6 rfl rfl rfl rfl Try.isAgg68 Try.sizeOf68 (xs := [.int .i64 kw, .int .i64 vw]) rfl ?_)
              | ((with_reducible (show Go.wpList _ _ _ (Go.Oper.mk _ (.load 70 (.tmp 7)) _ _ _ _ :: _) _ _)); refine wpl_loadW hE 1 rfl rfl rfl rfl Try.isAgg70 Try.sizeOf70 (xs := [.bool true, .slice ka ks.length kc, .slice va vs.length vc, .slice ia kids.length ic]) rfl ?_)
              | (go_at_call 33; have H := Put_node (kw := kw) (vw := vw) (leaf := true) bk bv bi hE (fun W h => reads_row h 2 rfl) (fun W h => reads_row h 3 rfl) (fun W h => reads_row h 4 rfl); rw [Hpu.out, Hpe.out] at H; refine H.mono ?_; clear H hE; rintro e w8 ⟨v, rfl, pa, pc, rfl, hE8⟩)
              | (go_at_call 52; have H := Err_any (hE8.front 1 rfl); refine H.mono ?_; clear H; rintro e w9 ⟨rfl, rfl⟩)
              | (go_at_call 60; have H := Equal_any (reads_row hE8 0 rfl) (hkb _ (hE8.suf (by repeat (first | exact List.suffix_refl _ | refine List.IsSuffix.trans ?_ (List.suffix_cons _ _))))); rw [Hq.out] at H; refine H.mono ?_; clear H; rintro e w9 ⟨rfl, rfl⟩)
              | ((with_reducible (show Go.wpList _ _ _ (Go.Oper.mk _ (.store _ _ _) _ _ _ _ :: _) _ _)); refine wpl_storeW hE8 6 rfl rfl rfl (xs := [.bool false, .slice none 0 0, .slice none 0 0, .slice none 0 0]) rfl rfl Try.sizeOf70 rfl (by simp [Value.oneCell']) rfl ?_; clear hE8; intro w hE9; simp only [List.set_cons_zero, List.set_cons_succ] at hE9))
            refine bodyPost_ret (results_cell2 rfl hE9 6 rfl rfl Try.isAgg70 Try.sizeOf70 rfl rfl) rfl ?_
            exact ⟨_, rfl, takeRes_zero Rr.out (hE9.suf ⟨[_, _, _, _, _, _, _, _], rfl⟩)⟩
          | true =>
            have c1' : (s.err != 0) = false := by simp only [bne, c1]; rfl
            cases c2 : (pe == 0) with
            | false =>
              have c2' : (pe != 0) = true := by simp only [bne, c2]; rfl
              have Rr := SL.hid (resN_bad hr (b := b) (by rw [Hok.out, Hmb.out, c1, c2]; rfl))
              go_wp2_with (first
                | go_skip
                | ((with_reducible (show Go.wpList _ _ _ (Go.Oper.mk _ (.load 68 (.tmp 2)) _ _ _ _ :: _) _ _)); refine wpl_loadW hE 6 rfl rfl rfl rfl Try.isAgg68 Try.sizeOf68 (xs := [.int .i64 kw, .int .i64 vw]) rfl ?_)
                | ((with_reducible (show Go.wpList _ _ _ (Go.Oper.mk _ (.load 70 (.tmp 7)) _ _ _ _ :: _) _ _)); refine wpl_loadW hE 1 rfl rfl rfl rfl Try.isAgg70 Try.sizeOf70 (xs := [.bool true, .slice ka ks.length kc, .slice va vs.length vc, .slice ia kids.length ic]) rfl ?_)
                | (go_at_call 33; have H := Put_node (kw := kw) (vw := vw) (leaf := true) bk bv bi hE (fun W h => reads_row h 2 rfl) (fun W h => reads_row h 3 rfl) (fun W h => reads_row h 4 rfl); rw [Hpu.out, Hpe.out] at H; refine H.mono ?_; clear H hE; rintro e w8 ⟨v, rfl, pa, pc, rfl, hE8⟩)
                | (go_at_call 52; have H := Err_any (hE8.front 1 rfl); refine H.mono ?_; clear H; rintro e w9 ⟨rfl, rfl⟩)
                | (go_at_call 60; have H := Equal_any (reads_row hE8 0 rfl) (hkb _ (hE8.suf (by repeat (first | exact List.suffix_refl _ | refine List.IsSuffix.trans ?_ (List.suffix_cons _ _))))); rw [Hq.out] at H; refine H.mono ?_; clear H; rintro e w9 ⟨rfl, rfl⟩)
                | ((with_reducible (show Go.wpList _ _ _ (Go.Oper.mk _ (.store _ _ _) _ _ _ _ :: _) _ _)); refine wpl_storeW hE8 6 rfl rfl rfl (xs := [.bool false, .slice none 0 0, .slice none 0 0, .slice none 0 0]) rfl rfl Try.sizeOf70 rfl (by simp [Value.oneCell']) rfl ?_; clear hE8; intro w hE9; simp only [List.set_cons_zero, List.set_cons_succ] at hE9))
              refine bodyPost_ret (results_cell2 rfl hE9 6 rfl rfl Try.isAgg70 Try.sizeOf70 rfl rfl) rfl ?_
              exact ⟨_, rfl, takeRes_zero Rr.out (hE9.suf ⟨[_, _, _, _, _, _, _, _], rfl⟩)⟩
            | true =>
              have c2' : (pe != 0) = false := by simp only [bne, c2]; rfl
              cases hq : (pu == b) with
              | false =>
                have Hq := SL.hid hq
                have Rr := SL.hid (resN_bad hr (b := b) (by rw [Hok.out, Hmb.out, c1, c2, Hpg.out c2, hq]; rfl))
                clear hq
                go_wp2_with (first
                  | go_skip
                  | ((with_reducible (show Go.wpList _ _ _ (Go.Oper.mk _ (.load 68 (.tmp 2)) _ _ _ _ :: _) _ _)); refine wpl_loadW hE 6 rfl rfl rfl rfl Try.isAgg68 Try.sizeOf68 (xs := [.int .i64 kw, .int .i64 vw]) rfl ?_)
                  | ((with_reducible (show Go.wpList _ _ _ (Go.Oper.mk _ (.load 70 (.tmp 7)) _ _ _ _ :: _) _ _)); refine wpl_loadW hE 1 rfl rfl rfl rfl Try.isAgg70 Try.sizeOf70 (xs := [.bool true, .slice ka ks.length kc, .slice va vs.length vc, .slice ia kids.length ic]) rfl ?_)
                  | (go_at_call 33; have H := Put_node (kw := kw) (vw := vw) (leaf := true) bk bv bi hE (fun W h => reads_row h 2 rfl) (fun W h => reads_row h 3 rfl) (fun W h => reads_row h 4 rfl); rw [Hpu.out, Hpe.out] at H; refine H.mono ?_; clear H hE; rintro e w8 ⟨v, rfl, pa, pc, rfl, hE8⟩)
                  | (go_at_call 52; have H := Err_any (hE8.front 1 rfl); refine H.mono ?_; clear H; rintro e w9 ⟨rfl, rfl⟩)
                  | (go_at_call 60; have H := Equal_any (reads_row hE8 0 rfl) (hkb _ (hE8.suf (by repeat (first | exact List.suffix_refl _ | refine List.IsSuffix.trans ?_ (List.suffix_cons _ _))))); rw [Hq.out] at H; refine H.mono ?_; clear H; rintro e w9 ⟨rfl, rfl⟩)
                  | ((with_reducible (show Go.wpList _ _ _ (Go.Oper.mk _ (.store _ _ _) _ _ _ _ :: _) _ _)); refine wpl_storeW hE8 6 rfl rfl rfl (xs := [.bool false, .slice none 0 0, .slice none 0 0, .slice none 0 0]) rfl rfl Try.sizeOf70 rfl (by simp [Value.oneCell']) rfl ?_; clear hE8; intro w hE9; simp only [List.set_cons_zero, List.set_cons_succ] at hE9))
                refine bodyPost_ret (results_cell2 rfl hE9 6 rfl rfl Try.isAgg70 Try.sizeOf70 rfl rfl) rfl ?_
                exact ⟨_, rfl, takeRes_zero Rr.out (hE9.suf ⟨[_, _, _, _, _, _, _, _], rfl⟩)⟩
              | true =>
                have Hq := SL.hid hq
                have Rr := SL.hid (resN_good hr (b := b) (by rw [Hok.out, Hmb.out, c1, c2, Hpg.out c2, hq]; rfl))
                clear hq
                go_wp2_with (first
                  | go_skip
                  | ((with_reducible (show Go.wpList _ _ _ (Go.Oper.mk _ (.load 68 (.tmp 2)) _ _ _ _ :: _) _ _)); refine wpl_loadW hE 6 rfl rfl rfl rfl Try.isAgg68 Try.sizeOf68 (xs := [.int .i64 kw, .int .i64 vw]) rfl ?_)
                  | ((with_reducible (show Go.wpList _ _ _ (Go.Oper.mk _ (.load 70 (.tmp 7)) _ _ _ _ :: _) _ _)); refine wpl_loadW hE 1 rfl rfl rfl rfl Try.isAgg70 Try.sizeOf70 (xs := [.bool true, .slice ka ks.length kc, .slice va vs.length vc, .slice ia kids.length ic]) rfl ?_)
                  | (go_at_call 33; have H := Put_node (kw := kw) (vw := vw) (leaf := true) bk bv bi hE (fun W h => reads_row h 2 rfl) (fun W h => reads_row h 3 rfl) (fun W h => reads_row h 4 rfl); rw [Hpu.out, Hpe.out] at H; refine H.mono ?_; clear H hE; rintro e w8 ⟨v, rfl, pa, pc, rfl, hE8⟩)
                  | (go_at_call 52; have H := Err_any (hE8.front 1 rfl); refine H.mono ?_; clear H; rintro e w9 ⟨rfl, rfl⟩)
                  | (go_at_call 60; have H := Equal_any (reads_row hE8 0 rfl) (hkb _ (hE8.suf (by repeat (first | exact List.suffix_refl _ | refine List.IsSuffix.trans ?_ (List.suffix_cons _ _))))); rw [Hq.out] at H; refine H.mono ?_; clear H; rintro e w9 ⟨rfl, rfl⟩)
                  | ((with_reducible (show Go.wpList _ _ _ (Go.Oper.mk _ (.load 70 (.tmp 7)) _ _ _ _ :: _) _ _)); refine wpl_loadW hE8 2 rfl rfl rfl rfl Try.isAgg70 Try.sizeOf70 (xs := [.bool true, .slice ka ks.length kc, .slice va vs.length vc, .slice ia kids.length ic]) rfl ?_)
                  | ((with_reducible (show Go.wpList _ _ _ (Go.Oper.mk _ (.store _ _ _) _ _ _ _ :: _) _ _)); refine wpl_storeW hE8 6 rfl rfl rfl (xs := [.bool true, .slice ka ks.length kc, .slice va vs.length vc, .slice ia kids.length ic]) rfl rfl Try.sizeOf70 rfl (by simp [Value.oneCell']) rfl ?_; clear hE8; intro w hE9; simp only [List.set_cons_zero, List.set_cons_succ] at hE9))
                refine bodyPost_ret (results_cell2 rfl hE9 6 rfl rfl Try.isAgg70 Try.sizeOf70 rfl rfl) rfl ?_
                refine ⟨_, rfl, ka, kc, va, vc, ia, ic, ?_, ?_⟩
                · rw [Rr.out.1, Rr.out.2, Hnode.out]; rfl
                · rw [Rr.out.1, Hnode.out]
                  exact ((hE9.erase 7).erase 6).suf ⟨[_, _, _], rfl⟩

set_option maxRecDepth 100000 in
set_option maxHeartbeats 8000000 in
theorem take_false {kw vw : Int} {b : List UInt8} (hb : b.length ≤ 100000) {ab : Option Addr} {cb : Nat} (hr : rightN kw vw = true) (hlf : leafR b = false) {l : List HProp} {w : World} (hE : Ent l w) (hkb : Knows l (reads (.slice ab b.length cb) b.length (bvals b))) :
    Calls Try.prog 39 #[.agg #[.int .i64 kw, .int .i64 vw], .slice ab b.length cb] w (Ret (takeRes kw vw b l)) := by
  have Hr := SL.hid hr
  have Hok0 := SL.hid (show okR kw vw b = ((entsR kw vw b).s.err == 0 && (mayB kw vw (nodeR kw vw b) && (pageU (nodeR kw vw b) == b))) from rfl)
  have Hnode0 := SL.hid (show nodeR kw vw b = ⟨leafR b, (entsR kw vw b).ks, (entsR kw vw b).vs, (kidsR b).1⟩ from rfl)
  have Hents := SL.hid (show rdE (leafR b) kw vw (keysR b) ⟨[], [], (kidsR b).2⟩ = entsR kw vw b from rfl)
  have Hkids := SL.hid (show kidsR b = rdK (keysR b + 1) ([], st3 b) by rw [kidsR, hlf]; rfl)
  have h1 : ((tkV 1 ⟨b, 0⟩ : Int) == 1) = false := hlf
  have T1 : ∀ {l : List HProp} {w : World} {o : Nat}, Ent (opener o b 0 :: l) w → Calls Try.prog 55 #[.pointer (some ⟨o, 0, none⟩), .int .i64 1] w (Ret fun v w' => v = .int .u64 (tkV 1 ⟨b, 0⟩) ∧ Ent (opener o (tk 1 ⟨b, 0⟩).bs (tk 1 ⟨b, 0⟩).err :: l) w') := fun h => sTake (s := ⟨b, 0⟩) h (by show b.length ≤ _; omega) 1
  have l1 : (tk 1 ⟨b, 0⟩).bs.length ≤ b.length := tk_len _ _
  have l2 : (tk 1 (tk 1 ⟨b, 0⟩)).bs.length ≤ b.length := Nat.le_trans (tk_len _ _) l1
  have l3 : (st3 b).bs.length ≤ b.length := Nat.le_trans (tk_len _ _) l2
  have T2 : ∀ {l : List HProp} {w : World} {o : Nat}, Ent (opener o (tk 1 ⟨b, 0⟩).bs (tk 1 ⟨b, 0⟩).err :: l) w → Calls Try.prog 55 #[.pointer (some ⟨o, 0, none⟩), .int .i64 1] w (Ret fun v w' => v = .int .u64 (tkV 1 (tk 1 ⟨b, 0⟩)) ∧ Ent (opener o (tk 1 (tk 1 ⟨b, 0⟩)).bs (tk 1 (tk 1 ⟨b, 0⟩)).err :: l) w') := fun h => sTake h (by omega) 1
  have T3 : ∀ {l : List HProp} {w : World} {o : Nat}, Ent (opener o (tk 1 (tk 1 ⟨b, 0⟩)).bs (tk 1 (tk 1 ⟨b, 0⟩)).err :: l) w → Calls Try.prog 55 #[.pointer (some ⟨o, 0, none⟩), .int .i64 2] w (Ret fun v w' => v = .int .u64 (keysR b) ∧ Ent (opener o (st3 b).bs (st3 b).err :: l) w') := fun h => sTake h (by omega) 2
  have hkr : keysR b < 65536 := tkV2_lt _
  generalize keysR b = nk at *
  have hwn : IntKind.i64.wrap (nk : Int) = (nk : Int) := wrap_id (by omega)
  generalize st3 b = s3 at *
  generalize tk 1 (tk 1 ⟨b, 0⟩) = s2 at *
  generalize tkV 1 (tk 1 ⟨b, 0⟩) = v2 at *
  generalize tk 1 ⟨b, 0⟩ = s1 at *
  generalize tkV 1 ⟨b, 0⟩ = v1 at *
  rw [hlf] at Hents Hnode0
  clear hlf
  generalize entsR kw vw b = RE at *
  generalize kidsR b = RK at *
  have hv1 : ((v1 : Int) == 1) = false := h1
  clear h1
  go_enter Try.func39, Try.ntmps39
  go_wp2_with (first
    | go_skip
    | ((with_reducible (show Go.wpList _ _ _ (Go.Oper.mk _ (.box _ (.tmp 0)) _ _ _ _ :: _) _ _)); refine wpl_box hE rfl rfl rfl ?_; clear hE; intro b2 w hE; simp only [Act.eval, Act.put, List.setIfInBounds_toArray, List.set_cons_zero, List.set_cons_succ, getD_lit, List.getD_cons_succ, List.getD_cons_zero, Value.cells] at hE)
    | ((with_reducible (show Go.wpList _ _ _ (Go.Oper.mk _ (.load 68 (.tmp 2)) _ _ _ _ :: _) _ _)); refine wpl_loadW hE 1 rfl rfl rfl rfl Try.isAgg68 Try.sizeOf68 (xs := [.int .i64 kw, .int .i64 vw]) rfl ?_)
    | (go_at_call 27; have H := May_shape (kw := kw) (vw := vw) hE; rw [Hr.out] at H; refine H.mono ?_; clear H hE; rintro e w2 ⟨v, rfl, rfl, hE⟩)
    | (go_at_call 47; have H := Of_any hE (hkb.suf (by repeat (first | exact List.suffix_refl _ | refine List.IsSuffix.trans ?_ (List.suffix_cons _ _)))) (by omega); refine H.mono ?_; clear H hE; rintro e w2 ⟨v, rfl, o, rfl, hE2⟩)
    | (go_at_call 55; have H := T1 hE2; refine H.mono ?_; clear H hE2; rintro e w3 ⟨v, rfl, rfl, hE3⟩)
    | ((with_reducible (show Go.wpList _ _ _ (Go.Oper.mk _ (.alloc 70) _ _ _ _ :: _) _ _)); refine wpl_alloc hE3 rfl rfl (by simp [go_sem]; rfl) ?_; clear hE3; intro b7 w hE4; simp only [Act.eval, Act.put, List.setIfInBounds_toArray, List.set_cons_zero, List.set_cons_succ, getD_lit, List.getD_cons_succ, List.getD_cons_zero, Value.cells] at hE4)
    | ((with_reducible (show Go.wpList _ _ _ (Go.Oper.mk _ (.alloc 70) _ _ _ _ :: _) _ _)); refine wpl_alloc hE rfl rfl (by simp [go_sem]; rfl) ?_; clear hE; intro b4 w hE; simp only [Act.eval, Act.put, List.setIfInBounds_toArray, List.set_cons_zero, List.set_cons_succ, getD_lit, List.getD_cons_succ, List.getD_cons_zero, Value.cells] at hE)
    | ((with_reducible (show Go.wpList _ _ _ (Go.Oper.mk _ (.store _ _ _) _ _ _ _ :: _) _ _)); refine wpl_storeW hE4 0 rfl rfl rfl (xs := [.bool false, .slice none 0 0, .slice none 0 0, .slice none 0 0]) rfl rfl Try.sizeOf70 rfl (by simp [Value.oneCell']) rfl ?_; clear hE4; intro w hE5; replace hE5 := hE5.front 1 rfl; simp only [List.set_cons_zero, List.set_cons_succ, List.eraseIdx_cons_zero, List.eraseIdx_cons_succ] at hE5)
    | (go_at_call 55; have H := T2 hE5; refine H.mono ?_; clear H hE5; rintro e w6 ⟨v, rfl, rfl, hE6⟩)
    | (go_at_call 55; have H := T3 hE6; refine H.mono ?_; clear H hE6; rintro e w7 ⟨v, rfl, rfl, hE7⟩))
  have hE8 : Ent (opener o s3.bs s3.err :: pt b7 (.cells #[.bool false, .slice none 0 0, .slice none 0 0, .slice none 0 0] 70) :: tkB4 b4 b2 kw vw l) w7 := hE7
  clear hE7
  go_loopw [9] (fun i wr => TK1 o b7 b.length (nk + 1) RK (tkB4 b4 b2 kw vw l) i wr) (fun i _ => nk + 1 - (intOf i).toNat)
  case atStart => exact ⟨0, [], s3, none, 0, Nat.zero_le _, rfl, Hkids.out.symm, l3, Nat.le_refl _, (hE8.nil 3 1).front 1 rfl |>.front 2 rfl |>.front 1 rfl⟩
  case round =>
    clear hE8
    obtain ⟨k, kids, s, ia, ic, hkn, rfl, hR, hsl, hk1, hE⟩ := hrel
    by_cases hgo : k ≤ nk ∧ (s.err == 0) = true
    · obtain ⟨hle, he⟩ := hgo
      have HR := SL.hid (show rdK (nk + 1 - (k + 1)) (kids ++ [(tkV 2 s : Int)], tk 2 s) = RK by
        rw [← hR, show nk + 1 - k = (nk + 1 - (k + 1)) + 1 by omega, rdK_go (by exact he)])
      clear hR
      have X1 : ∀ {l : List HProp} {w : World}, Ent (opener o s.bs s.err :: l) w → Calls Try.prog 55 #[.pointer (some ⟨o, 0, none⟩), .int .i64 2] w (Ret fun v w' => v = .int .u64 (tkV 2 s) ∧ Ent (opener o (tk 2 s).bs (tk 2 s).err :: l) w') := fun h => sTake h (by omega) 2
      have lx : (tk 2 s).bs.length ≤ b.length := Nat.le_trans (tk_len _ _) hsl
      have hxl := tkV2_lt s
      generalize tk 2 s = sx at *
      generalize tkV 2 s = x at *
      have hwx : IntKind.i64.wrap (x : Int) = (x : Int) := wrap_id (by omega)
      go_wp2_with (first
        | go_skip
        | ((with_reducible (show Go.wpList _ _ _ (Go.Oper.mk _ (.load 4 _) _ _ _ _ :: _) _ _)); refine wpl_load1 hE 1 rfl rfl rfl rfl (by simp [go_sem]) rfl ?_)
        | (go_at_call 52; have H := Err_any hE; refine H.mono ?_; clear H; rintro e w9 ⟨rfl, rfl⟩))
      refine wp_region_held_drew (S := (fun w' => (True))) (by kernel_rfl) trivial (fun hS => ?_)
      refine takeW 0 ⟨some 43, .fieldAddr 70 (.tmp 7) 3, 0, "node.go:111", #[], none⟩ ?_ (.inl ⟨by rfl, ?_⟩) hS ?_
      rotate_left
      · (intro w hSw; (try dsimp only at hSw); go_simp; (try with_reducible rfl))
      try simp only [Act.put, sb, s0, sz]
      refine takeW 2 ⟨some 45, .move (.tmp 6), 102, "node.go:111", #[], none⟩ ?_ (.inl ⟨by rfl, ?_⟩) hS ?_
      rotate_left
      · (intro w hSw; (try dsimp only at hSw); go_simp; (try with_reducible rfl))
      try simp only [Act.put, sb, s0, sz]
      refine wpAnyH_ready (rs := [1, 3]) (by kernel_rfl) (by simp) ?_
      refine (AllReadyH.cons (o := { dst := some 44, op := Go.Op.load 64 (Go.Operand.tmp 43), type := 64, pos := "node.go:111", after := #[{ on := 0, ground := Go.Ground.data }], guard := none }) rfl (fun K hK => ?_) (AllReadyH.cons (o := { dst := some 46, op := Go.Op.call { callee := Go.Callee.value (Go.Operand.func 55), args := #[Go.Operand.tmp 45, Go.Operand.const (Go.Value.int Go.IntKind.i64 2)], argTypes := #[102, 3] }, type := 91, pos := "node.go:111", after := #[{ on := 2, ground := Go.Ground.data }], guard := none }) rfl (fun K hK => ?_) AllReadyH.nil))
      focus
        (first | (refine step_load1 hE4 2 rfl rfl (by rfl) (by rfl) (by simp [go_sem]) rfl ?_) | (refine step_load1 hE3 1 rfl rfl (by rfl) (by rfl) (by simp [go_sem]) rfl ?_) | (refine step_load1 hE.drew 1 rfl rfl (by rfl) (by rfl) (by simp [go_sem]) rfl ?_))
        refine hK.out _ _ (by first | exact trivial | exact trivial | exact trivial) (fun hS => ?_)
        clear hK K
        try simp only [Act.put, sb, s0, sz]
        refine wpAnyH_ready (rs := [3]) (by kernel_rfl) (by simp) ?_
        refine (AllReadyH.cons (o := { dst := some 46, op := Go.Op.call { callee := Go.Callee.value (Go.Operand.func 55), args := #[Go.Operand.tmp 45, Go.Operand.const (Go.Value.int Go.IntKind.i64 2)], argTypes := #[102, 3] }, type := 91, pos := "node.go:111", after := #[{ on := 2, ground := Go.Ground.data }], guard := none }) rfl (fun K hK => ?_) AllReadyH.nil)
        (go_simp; refine (X1 hE.drew).mono ?_; rintro e w3 ⟨v, rfl, rfl, hE3⟩)
        refine hK.out _ _ trivial (fun hS => ?_)
        clear hK K
        try simp only [Act.put, sb, s0, sz]
        refine takeW 4 ⟨some 47, .convert 91 3 (.tmp 46), 3, "node.go:111", #[⟨3, .data⟩], none⟩ ?_ (.inl ⟨by rfl, ?_⟩) hS ?_
        rotate_left
        · (intro w hSw; (try dsimp only at hSw); go_simp; (try with_reducible rfl))
        try simp only [Act.put, sb, s0, sz]
        refine wpAnyH_ready (rs := [5]) (by kernel_rfl) (by simp) ?_
        refine (AllReadyH.cons (o := { dst := some 48, op := Go.Op.buildSlice 64 1 #[(0, Go.Operand.tmp 47)], type := 64, pos := "node.go:111", after := #[{ on := 4, ground := Go.Ground.data }], guard := none }) rfl (fun K hK => ?_) AllReadyH.nil)
        (go_simp; have hE4 := hE3.alloc (.cells #[.int .i64 x] 3); generalize w3.alloc (.cells #[.int .i64 x] 3) = w4 at hE4 ⊢)
        refine hK.out _ _ trivial (fun hS => ?_)
        clear hK K
        try simp only [Act.put, sb, s0, sz]
        refine wpAnyH_ready (rs := [6]) (by kernel_rfl) (by simp) ?_
        refine (AllReadyH.cons (o := { dst := some 49, op := Go.Op.call { callee := Go.Callee.builtin Go.Builtin.append, args := #[Go.Operand.tmp 44, Go.Operand.tmp 48], argTypes := #[64, 64] }, type := 64, pos := "node.go:111", after := #[{ on := 1, ground := Go.Ground.data }, { on := 5, ground := Go.Ground.data }, { on := 3, ground := Go.Ground.chain }], guard := none }) rfl (fun K hK => ?_) AllReadyH.nil)
        (refine step_appendG hE4 3 rfl (by rfl) (by rfl) (by rfl) (by rfl) Try.underlying64 info_int (by decide) (m := 1) (news := [intv x]) (reads_pt hE4 0 rfl (off := 0) (fun j u hu => by rw [Nat.zero_add, List.getElem?_toArray]; exact hu)) rfl (by simp [intv, Value.oneCell']) (by omega) (by omega) ?_; intro ao' c' w6 hE5; simp only [List.set_cons_zero, List.set_cons_succ] at hE5)
        refine hK.out _ _ trivial (fun hS => ?_)
        clear hK K
        try simp only [Act.put, sb, s0, sz]
        refine takeW 7 ⟨some 50, .fieldAddr 70 (.tmp 7) 3, 0, "node.go:111", #[⟨0, .phase⟩, ⟨1, .phase⟩, ⟨2, .phase⟩, ⟨3, .phase⟩, ⟨4, .phase⟩, ⟨5, .phase⟩, ⟨6, .phase⟩], none⟩ ?_ (.inl ⟨by rfl, ?_⟩) hS ?_
        rotate_left
        · (intro w hSw; (try dsimp only at hSw); go_simp; (try with_reducible rfl))
        try simp only [Act.put, sb, s0, sz]
        refine wpAnyH_ready (rs := [8]) (by kernel_rfl) (by simp) ?_
        refine (AllReadyH.cons (o := { dst := none, op := Go.Op.store 64 (Go.Operand.tmp 50) (Go.Operand.tmp 49), type := 0, pos := "node.go:111", after := #[{ on := 7, ground := Go.Ground.data }, { on := 6, ground := Go.Ground.data }, { on := 6, ground := Go.Ground.chain }, { on := 0, ground := Go.Ground.phase }, { on := 1, ground := Go.Ground.phase }, { on := 2, ground := Go.Ground.phase }, { on := 3, ground := Go.Ground.phase }, { on := 4, ground := Go.Ground.phase }, { on := 5, ground := Go.Ground.phase }, { on := 6, ground := Go.Ground.phase }], guard := none }) rfl (fun K hK => ?_) AllReadyH.nil)
        (have f9 := hE5.frozen 2 rfl 3; have c9 := hE5.cell 2 rfl 3; go_simp)
        refine hK.out _ _ trivial (fun hS => ?_)
        clear hK K
        try simp only [Act.put, sb, s0, sz]
        refine wpAnyH_done (by kernel_rfl) ?_ _
      rotate_right
      focus
        (go_simp; refine (X1 hE.drew).mono ?_; rintro e w3 ⟨v, rfl, rfl, hE3⟩)
        refine hK.out _ _ trivial (fun hS => ?_)
        clear hK K
        try simp only [Act.put, sb, s0, sz]
        refine takeW 4 ⟨some 47, .convert 91 3 (.tmp 46), 3, "node.go:111", #[⟨3, .data⟩], none⟩ ?_ (.inl ⟨by rfl, ?_⟩) hS ?_
        rotate_left
        · (intro w hSw; (try dsimp only at hSw); go_simp; (try with_reducible rfl))
        try simp only [Act.put, sb, s0, sz]
        refine wpAnyH_ready (rs := [1, 5]) (by kernel_rfl) (by simp) ?_
        refine (AllReadyH.cons (o := { dst := some 44, op := Go.Op.load 64 (Go.Operand.tmp 43), type := 64, pos := "node.go:111", after := #[{ on := 0, ground := Go.Ground.data }], guard := none }) rfl (fun K hK => ?_) (AllReadyH.cons (o := { dst := some 48, op := Go.Op.buildSlice 64 1 #[(0, Go.Operand.tmp 47)], type := 64, pos := "node.go:111", after := #[{ on := 4, ground := Go.Ground.data }], guard := none }) rfl (fun K hK => ?_) AllReadyH.nil))
        focus
          (first | (refine step_load1 hE4 2 rfl rfl (by rfl) (by rfl) (by simp [go_sem]) rfl ?_) | (refine step_load1 hE3 1 rfl rfl (by rfl) (by rfl) (by simp [go_sem]) rfl ?_) | (refine step_load1 hE.drew 1 rfl rfl (by rfl) (by rfl) (by simp [go_sem]) rfl ?_))
          refine hK.out _ _ (by first | exact trivial | exact trivial | exact trivial) (fun hS => ?_)
          clear hK K
          try simp only [Act.put, sb, s0, sz]
          refine wpAnyH_ready (rs := [5]) (by kernel_rfl) (by simp) ?_
          refine (AllReadyH.cons (o := { dst := some 48, op := Go.Op.buildSlice 64 1 #[(0, Go.Operand.tmp 47)], type := 64, pos := "node.go:111", after := #[{ on := 4, ground := Go.Ground.data }], guard := none }) rfl (fun K hK => ?_) AllReadyH.nil)
          (go_simp; have hE4 := hE3.alloc (.cells #[.int .i64 x] 3); generalize w3.alloc (.cells #[.int .i64 x] 3) = w4 at hE4 ⊢)
          refine hK.out _ _ trivial (fun hS => ?_)
          clear hK K
          try simp only [Act.put, sb, s0, sz]
          refine wpAnyH_ready (rs := [6]) (by kernel_rfl) (by simp) ?_
          refine (AllReadyH.cons (o := { dst := some 49, op := Go.Op.call { callee := Go.Callee.builtin Go.Builtin.append, args := #[Go.Operand.tmp 44, Go.Operand.tmp 48], argTypes := #[64, 64] }, type := 64, pos := "node.go:111", after := #[{ on := 1, ground := Go.Ground.data }, { on := 5, ground := Go.Ground.data }, { on := 3, ground := Go.Ground.chain }], guard := none }) rfl (fun K hK => ?_) AllReadyH.nil)
          (refine step_appendG hE4 3 rfl (by rfl) (by rfl) (by rfl) (by rfl) Try.underlying64 info_int (by decide) (m := 1) (news := [intv x]) (reads_pt hE4 0 rfl (off := 0) (fun j u hu => by rw [Nat.zero_add, List.getElem?_toArray]; exact hu)) rfl (by simp [intv, Value.oneCell']) (by omega) (by omega) ?_; intro ao' c' w6 hE5; simp only [List.set_cons_zero, List.set_cons_succ] at hE5)
          refine hK.out _ _ trivial (fun hS => ?_)
          clear hK K
          try simp only [Act.put, sb, s0, sz]
          refine takeW 7 ⟨some 50, .fieldAddr 70 (.tmp 7) 3, 0, "node.go:111", #[⟨0, .phase⟩, ⟨1, .phase⟩, ⟨2, .phase⟩, ⟨3, .phase⟩, ⟨4, .phase⟩, ⟨5, .phase⟩, ⟨6, .phase⟩], none⟩ ?_ (.inl ⟨by rfl, ?_⟩) hS ?_
          rotate_left
          · (intro w hSw; (try dsimp only at hSw); go_simp; (try with_reducible rfl))
          try simp only [Act.put, sb, s0, sz]
          refine wpAnyH_ready (rs := [8]) (by kernel_rfl) (by simp) ?_
          refine (AllReadyH.cons (o := { dst := none, op := Go.Op.store 64 (Go.Operand.tmp 50) (Go.Operand.tmp 49), type := 0, pos := "node.go:111", after := #[{ on := 7, ground := Go.Ground.data }, { on := 6, ground := Go.Ground.data }, { on := 6, ground := Go.Ground.chain }, { on := 0, ground := Go.Ground.phase }, { on := 1, ground := Go.Ground.phase }, { on := 2, ground := Go.Ground.phase }, { on := 3, ground := Go.Ground.phase }, { on := 4, ground := Go.Ground.phase }, { on := 5, ground := Go.Ground.phase }, { on := 6, ground := Go.Ground.phase }], guard := none }) rfl (fun K hK => ?_) AllReadyH.nil)
          (have f9 := hE5.frozen 2 rfl 3; have c9 := hE5.cell 2 rfl 3; go_simp)
          refine hK.out _ _ trivial (fun hS => ?_)
          clear hK K
          try simp only [Act.put, sb, s0, sz]
          refine wpAnyH_done (by kernel_rfl) ?_ _
        rotate_right
        focus
          (go_simp; have hE4 := hE3.alloc (.cells #[.int .i64 x] 3); generalize w3.alloc (.cells #[.int .i64 x] 3) = w4 at hE4 ⊢)
          refine hK.out _ _ trivial (fun hS => ?_)
          clear hK K
          try simp only [Act.put, sb, s0, sz]
          refine wpAnyH_ready (rs := [1]) (by kernel_rfl) (by simp) ?_
          refine (AllReadyH.cons (o := { dst := some 44, op := Go.Op.load 64 (Go.Operand.tmp 43), type := 64, pos := "node.go:111", after := #[{ on := 0, ground := Go.Ground.data }], guard := none }) rfl (fun K hK => ?_) AllReadyH.nil)
          (first | (refine step_load1 hE4 2 rfl rfl (by rfl) (by rfl) (by simp [go_sem]) rfl ?_) | (refine step_load1 hE3 1 rfl rfl (by rfl) (by rfl) (by simp [go_sem]) rfl ?_) | (refine step_load1 hE.drew 1 rfl rfl (by rfl) (by rfl) (by simp [go_sem]) rfl ?_))
          refine hK.out _ _ (by first | exact trivial | exact trivial | exact trivial) (fun hS => ?_)
          clear hK K
          try simp only [Act.put, sb, s0, sz]
          refine wpAnyH_ready (rs := [6]) (by kernel_rfl) (by simp) ?_
          refine (AllReadyH.cons (o := { dst := some 49, op := Go.Op.call { callee := Go.Callee.builtin Go.Builtin.append, args := #[Go.Operand.tmp 44, Go.Operand.tmp 48], argTypes := #[64, 64] }, type := 64, pos := "node.go:111", after := #[{ on := 1, ground := Go.Ground.data }, { on := 5, ground := Go.Ground.data }, { on := 3, ground := Go.Ground.chain }], guard := none }) rfl (fun K hK => ?_) AllReadyH.nil)
          (refine step_appendG hE4 3 rfl (by rfl) (by rfl) (by rfl) (by rfl) Try.underlying64 info_int (by decide) (m := 1) (news := [intv x]) (reads_pt hE4 0 rfl (off := 0) (fun j u hu => by rw [Nat.zero_add, List.getElem?_toArray]; exact hu)) rfl (by simp [intv, Value.oneCell']) (by omega) (by omega) ?_; intro ao' c' w6 hE5; simp only [List.set_cons_zero, List.set_cons_succ] at hE5)
          refine hK.out _ _ trivial (fun hS => ?_)
          clear hK K
          try simp only [Act.put, sb, s0, sz]
          refine takeW 7 ⟨some 50, .fieldAddr 70 (.tmp 7) 3, 0, "node.go:111", #[⟨0, .phase⟩, ⟨1, .phase⟩, ⟨2, .phase⟩, ⟨3, .phase⟩, ⟨4, .phase⟩, ⟨5, .phase⟩, ⟨6, .phase⟩], none⟩ ?_ (.inl ⟨by rfl, ?_⟩) hS ?_
          rotate_left
          · (intro w hSw; (try dsimp only at hSw); go_simp; (try with_reducible rfl))
          try simp only [Act.put, sb, s0, sz]
          refine wpAnyH_ready (rs := [8]) (by kernel_rfl) (by simp) ?_
          refine (AllReadyH.cons (o := { dst := none, op := Go.Op.store 64 (Go.Operand.tmp 50) (Go.Operand.tmp 49), type := 0, pos := "node.go:111", after := #[{ on := 7, ground := Go.Ground.data }, { on := 6, ground := Go.Ground.data }, { on := 6, ground := Go.Ground.chain }, { on := 0, ground := Go.Ground.phase }, { on := 1, ground := Go.Ground.phase }, { on := 2, ground := Go.Ground.phase }, { on := 3, ground := Go.Ground.phase }, { on := 4, ground := Go.Ground.phase }, { on := 5, ground := Go.Ground.phase }, { on := 6, ground := Go.Ground.phase }], guard := none }) rfl (fun K hK => ?_) AllReadyH.nil)
          (have f9 := hE5.frozen 2 rfl 3; have c9 := hE5.cell 2 rfl 3; go_simp)
          refine hK.out _ _ trivial (fun hS => ?_)
          clear hK K
          try simp only [Act.put, sb, s0, sz]
          refine wpAnyH_done (by kernel_rfl) ?_ _
      all_goals
        have hE9 := (hE5.setCell 2 rfl 3 (.slice ao' (kids.length + 1) c')).tail
        simp only [List.set_cons_zero, List.set_cons_succ, List.setIfInBounds_toArray] at hE9
        generalize w6.setCell ⟨b7, 3, none⟩ (.slice ao' (kids.length + 1) c') = wz at hE9 ⊢
        have e1 : kids.length + 1 = (kids ++ [(x : Int)]).length := by simp
        have e2 : kids.map intv ++ [intv x] = (kids ++ [(x : Int)]).map intv := by simp
        rw [e2, e1] at hE9
        have hkl : (kids ++ [(x : Int)]).length ≤ k + 1 := by rw [← e1]; omega
        clear e1 e2
        generalize kids ++ [(x : Int)] = kids2 at *
        go_wp2
        go_roundw
        case rel => exact ⟨k + 1, kids2, sx, ao', c', by omega, by first | rfl | simp, HR.out, lx, hkl, hE9⟩
        case measure => simp [intOf] <;> omega
    · have HRK2 := SL.hid (show (kids, s) = RK by
        rw [← hR]
        by_cases hle : k ≤ nk
        · exact (rdK_stop (by show (s.err == 0) = false; simpa using fun h => hgo ⟨hle, by simpa using h⟩)).symm
        · rw [show nk + 1 - k = 0 by omega]; rfl)
      clear hR
      have HRK := SL.hid (show RK.1 = kids by rw [← HRK2.out])
      have Hents4 := SL.hid (show rdE false kw vw (nk - 0) ⟨[], [], s⟩ = RE by rw [← Hents.out, ← HRK2.out]; rfl)
      have hgo' : k ≤ nk → (s.err == 0) = false := fun hle => by simpa using fun h => hgo ⟨hle, by simpa using h⟩
      clear hgo HRK2
      have bi : kids.length ≤ 100000 := by omega
      obtain ⟨s4, hs4⟩ : ∃ s4, s4 = s := ⟨_, rfl⟩
      have hl4 : s4.bs.length ≤ b.length := by rw [hs4]; exact hsl
      cases d0 : decide (k ≤ nk) with
      | true =>
        have c0 := hgo' (of_decide_eq_true d0)
        clear hgo'
        go_wp2_with (first
          | go_skip
          | ((with_reducible (show Go.wpList _ _ _ (Go.Oper.mk _ (.load 4 _) _ _ _ _ :: _) _ _)); refine wpl_load1 hE 1 rfl rfl rfl rfl (by simp [go_sem]) rfl ?_)
          | (go_at_call 52; have H := Err_any hE; refine H.mono ?_; clear H; rintro e w9 ⟨rfl, rfl⟩))
        rw [← hs4] at hE Hents4
        have hEs : Ent (opener o s4.bs s4.err :: pt b7 (.cells #[.bool false, .slice none ([] : List (List UInt8)).length 0, .slice none ([] : List (List UInt8)).length 0, .slice ia kids.length ic] 70) :: rowS none 0 [] :: rowS none 0 [] :: rowI ia ic kids :: tkB4 b4 b2 kw vw l) _ := ((hE.nil 9 1).nil 9 1).front 2 rfl |>.front 3 rfl |>.front 1 rfl
        clear hE hs4 hkn hk1 hsl d0
        go_loopw [10] (fun i wr => TK2 false kw vw o b7 b.length nk RE ia ic kids (tkB4 b4 b2 kw vw l) i wr) (fun i _ => nk - (intOf i).toNat)
        case atStart => exact ⟨0, ⟨[], [], s4⟩, none, none, 0, 0, Nat.zero_le _, rfl, Hents4.out, hl4, Nat.le_refl _, Nat.le_refl _, hEs⟩
        case round =>
          clear hEs
          obtain ⟨k, ⟨ks, vs, s⟩, ka, va, kc, vc, hkn, rfl, hR, hsl, hk1, hv1', hE⟩ := hrel
          simp only at hR hsl hk1 hv1' hE
          by_cases hgo : k < nk ∧ (s.err == 0) = true
          · obtain ⟨hlt, he⟩ := hgo
            have HR := SL.hid (show rdE false kw vw (nk - (k + 1)) (rdStep false kw vw ⟨ks, vs, s⟩) = RE by
              rw [← hR, show nk - k = (nk - (k + 1)) + 1 by omega, rdE_go (by exact he)])
            clear hR
            have X1 : ∀ {l : List HProp} {w : World}, Ent (opener o s.bs s.err :: l) w → Calls Try.prog 56 #[.pointer (some ⟨o, 0, none⟩), .int .i64 kw] w (Ret fun v w' => v = .string ⟨(txV kw s).toArray⟩ ∧ Ent (opener o (tx kw s).bs (tx kw s).err :: l) w') := fun h => sText h (by omega) kw
            have lx : (tx kw s).bs.length ≤ b.length := Nat.le_trans (tx_len _ _) hsl
            have HS : rdStep false kw vw ⟨ks, vs, s⟩ = ⟨ks ++ [txV kw s], vs, tx kw s⟩ := rfl
            rw [HS] at HR
            clear HS
            generalize tx kw s = sx at *
            generalize txV kw s = x at *
            go_wp2_with (first
              | go_skip
              | (go_at_call 52; have H := Err_any hE; refine H.mono ?_; clear H; rintro e w9 ⟨rfl, rfl⟩))
            refine wp_region_held_drew (S := (fun w' => (w'.cell? ⟨b2, 0, none⟩ = some (.int .i64 kw)))) (by kernel_rfl) (cellV hE.drew (by repeat (first | exact List.Mem.head _ | refine List.Mem.tail _ ?_)) rfl) (fun hS => ?_)
            refine takeW 0 ⟨some 61, .fieldAddr 70 (.tmp 7) 1, 0, "node.go:114", #[], none⟩ ?_ (.inl ⟨by rfl, ?_⟩) hS ?_
            rotate_left
            · (intro w hSw; (try dsimp only at hSw); go_simp; (try with_reducible rfl))
            try simp only [Act.put, sb, s0, sz]
            refine takeW 2 ⟨some 63, .move (.tmp 6), 102, "node.go:114", #[], none⟩ ?_ (.inl ⟨by rfl, ?_⟩) hS ?_
            rotate_left
            · (intro w hSw; (try dsimp only at hSw); go_simp; (try with_reducible rfl))
            try simp only [Act.put, sb, s0, sz]
            refine takeW 3 ⟨some 64, .fieldAddr 68 (.tmp 2) 0, 0, "node.go:114", #[], none⟩ ?_ (.inl ⟨by rfl, ?_⟩) hS ?_
            rotate_left
            · (intro w hSw; (try dsimp only at hSw); go_simp; (try with_reducible rfl))
            try simp only [Act.put, sb, s0, sz]
            refine takeW 4 ⟨some 65, .load 3 (.tmp 64), 3, "node.go:114", #[⟨3, .data⟩], none⟩ ?_ (.inl ⟨by rfl, ?_⟩) hS ?_
            rotate_left
            · (intro w hSw; (try dsimp only at hSw); go_simp; (try with_reducible rfl))
            try simp only [Act.put, sb, s0, sz]
            refine wpAnyH_ready (rs := [1, 5]) (by kernel_rfl) (by simp) ?_
            refine (AllReadyH.cons (o := { dst := some 62, op := Go.Op.load 63 (Go.Operand.tmp 61), type := 63, pos := "node.go:114", after := #[{ on := 0, ground := Go.Ground.data }], guard := none }) rfl (fun K hK => ?_) (AllReadyH.cons (o := { dst := some 66, op := Go.Op.call { callee := Go.Callee.value (Go.Operand.func 56), args := #[Go.Operand.tmp 63, Go.Operand.tmp 65], argTypes := #[102, 3] }, type := 9, pos := "node.go:114", after := #[{ on := 2, ground := Go.Ground.data }, { on := 4, ground := Go.Ground.data }], guard := none }) rfl (fun K hK => ?_) AllReadyH.nil))
            focus
              (first | (refine step_load1 hE4 2 rfl rfl (by rfl) (by rfl) (by simp [go_sem]) rfl ?_) | (refine step_load1 hE3 1 rfl rfl (by rfl) (by rfl) (by simp [go_sem]) rfl ?_) | (refine step_load1 hE.drew 1 rfl rfl (by rfl) (by rfl) (by simp [go_sem]) rfl ?_))
              refine hK.out _ _ (by first | exact (cellV hE4 (by repeat (first | exact List.Mem.head _ | refine List.Mem.tail _ ?_)) rfl) | exact (cellV hE3 (by repeat (first | exact List.Mem.head _ | refine List.Mem.tail _ ?_)) rfl) | exact (cellV hE.drew (by repeat (first | exact List.Mem.head _ | refine List.Mem.tail _ ?_)) rfl)) (fun hS => ?_)
              clear hK K
              try simp only [Act.put, sb, s0, sz]
              refine wpAnyH_ready (rs := [5]) (by kernel_rfl) (by simp) ?_
              refine (AllReadyH.cons (o := { dst := some 66, op := Go.Op.call { callee := Go.Callee.value (Go.Operand.func 56), args := #[Go.Operand.tmp 63, Go.Operand.tmp 65], argTypes := #[102, 3] }, type := 9, pos := "node.go:114", after := #[{ on := 2, ground := Go.Ground.data }, { on := 4, ground := Go.Ground.data }], guard := none }) rfl (fun K hK => ?_) AllReadyH.nil)
              (go_simp; refine (X1 hE.drew).mono ?_; rintro e w3 ⟨v, rfl, rfl, hE3⟩)
              refine hK.out _ _ (cellV hE3 (by repeat (first | exact List.Mem.head _ | refine List.Mem.tail _ ?_)) rfl) (fun hS => ?_)
              clear hK K
              try simp only [Act.put, sb, s0, sz]
              refine wpAnyH_ready (rs := [6]) (by kernel_rfl) (by simp) ?_
              refine (AllReadyH.cons (o := { dst := some 67, op := Go.Op.buildSlice 63 1 #[(0, Go.Operand.tmp 66)], type := 63, pos := "node.go:114", after := #[{ on := 5, ground := Go.Ground.data }], guard := none }) rfl (fun K hK => ?_) AllReadyH.nil)
              (go_simp; have hE4 := hE3.alloc (.cells #[.string ⟨x.toArray⟩] 9); generalize w3.alloc (.cells #[.string ⟨x.toArray⟩] 9) = w4 at hE4 ⊢)
              refine hK.out _ _ (cellV hE4 (by repeat (first | exact List.Mem.head _ | refine List.Mem.tail _ ?_)) rfl) (fun hS => ?_)
              clear hK K
              try simp only [Act.put, sb, s0, sz]
              refine wpAnyH_ready (rs := [7]) (by kernel_rfl) (by simp) ?_
              refine (AllReadyH.cons (o := { dst := some 68, op := Go.Op.call { callee := Go.Callee.builtin Go.Builtin.append, args := #[Go.Operand.tmp 62, Go.Operand.tmp 67], argTypes := #[63, 63] }, type := 63, pos := "node.go:114", after := #[{ on := 1, ground := Go.Ground.data }, { on := 6, ground := Go.Ground.data }, { on := 5, ground := Go.Ground.chain }], guard := none }) rfl (fun K hK => ?_) AllReadyH.nil)
              (refine step_appendG hE4 3 rfl (by rfl) (by rfl) (by rfl) (by rfl) Try.underlying63 info_str (by decide) (m := 1) (news := [strv x]) (reads_pt hE4 0 rfl (off := 0) (fun j u hu => by rw [Nat.zero_add, List.getElem?_toArray]; exact hu)) rfl (by simp [strv, Value.oneCell']) (by omega) (by omega) ?_; intro ao' c' w6 hE5; simp only [List.set_cons_zero, List.set_cons_succ] at hE5)
              refine hK.out _ _ (cellV hE5 (by repeat (first | exact List.Mem.head _ | refine List.Mem.tail _ ?_)) rfl) (fun hS => ?_)
              clear hK K
              try simp only [Act.put, sb, s0, sz]
              refine takeW 8 ⟨some 69, .fieldAddr 70 (.tmp 7) 1, 0, "node.go:114", #[⟨0, .phase⟩, ⟨1, .phase⟩, ⟨2, .phase⟩, ⟨3, .phase⟩, ⟨4, .phase⟩, ⟨5, .phase⟩, ⟨6, .phase⟩, ⟨7, .phase⟩], none⟩ ?_ (.inl ⟨by rfl, ?_⟩) hS ?_
              rotate_left
              · (intro w hSw; (try dsimp only at hSw); go_simp; (try with_reducible rfl))
              try simp only [Act.put, sb, s0, sz]
              refine wpAnyH_ready (rs := [9]) (by kernel_rfl) (by simp) ?_
              refine (AllReadyH.cons (o := { dst := none, op := Go.Op.store 63 (Go.Operand.tmp 69) (Go.Operand.tmp 68), type := 0, pos := "node.go:114", after := #[{ on := 8, ground := Go.Ground.data }, { on := 7, ground := Go.Ground.data }, { on := 7, ground := Go.Ground.chain }, { on := 0, ground := Go.Ground.phase }, { on := 1, ground := Go.Ground.phase }, { on := 2, ground := Go.Ground.phase }, { on := 3, ground := Go.Ground.phase }, { on := 4, ground := Go.Ground.phase }, { on := 5, ground := Go.Ground.phase }, { on := 6, ground := Go.Ground.phase }, { on := 7, ground := Go.Ground.phase }], guard := none }) rfl (fun K hK => ?_) AllReadyH.nil)
              (have f9 := hE5.frozen 2 rfl 1; have c9 := hE5.cell 2 rfl 1; go_simp)
              refine hK.out _ _ (cellV (hE5.setCell 2 rfl 1 (.slice ao' (ks.length + 1) c')) (by repeat (first | exact List.Mem.head _ | refine List.Mem.tail _ ?_)) rfl) (fun hS => ?_)
              clear hK K
              try simp only [Act.put, sb, s0, sz]
              refine wpAnyH_done (by kernel_rfl) ?_ _
            rotate_right
            focus
              (go_simp; refine (X1 hE.drew).mono ?_; rintro e w3 ⟨v, rfl, rfl, hE3⟩)
              refine hK.out _ _ (cellV hE3 (by repeat (first | exact List.Mem.head _ | refine List.Mem.tail _ ?_)) rfl) (fun hS => ?_)
              clear hK K
              try simp only [Act.put, sb, s0, sz]
              refine wpAnyH_ready (rs := [1, 6]) (by kernel_rfl) (by simp) ?_
              refine (AllReadyH.cons (o := { dst := some 62, op := Go.Op.load 63 (Go.Operand.tmp 61), type := 63, pos := "node.go:114", after := #[{ on := 0, ground := Go.Ground.data }], guard := none }) rfl (fun K hK => ?_) (AllReadyH.cons (o := { dst := some 67, op := Go.Op.buildSlice 63 1 #[(0, Go.Operand.tmp 66)], type := 63, pos := "node.go:114", after := #[{ on := 5, ground := Go.Ground.data }], guard := none }) rfl (fun K hK => ?_) AllReadyH.nil))
              focus
                (first | (refine step_load1 hE4 2 rfl rfl (by rfl) (by rfl) (by simp [go_sem]) rfl ?_) | (refine step_load1 hE3 1 rfl rfl (by rfl) (by rfl) (by simp [go_sem]) rfl ?_) | (refine step_load1 hE.drew 1 rfl rfl (by rfl) (by rfl) (by simp [go_sem]) rfl ?_))
                refine hK.out _ _ (by first | exact (cellV hE4 (by repeat (first | exact List.Mem.head _ | refine List.Mem.tail _ ?_)) rfl) | exact (cellV hE3 (by repeat (first | exact List.Mem.head _ | refine List.Mem.tail _ ?_)) rfl) | exact (cellV hE.drew (by repeat (first | exact List.Mem.head _ | refine List.Mem.tail _ ?_)) rfl)) (fun hS => ?_)
                clear hK K
                try simp only [Act.put, sb, s0, sz]
                refine wpAnyH_ready (rs := [6]) (by kernel_rfl) (by simp) ?_
                refine (AllReadyH.cons (o := { dst := some 67, op := Go.Op.buildSlice 63 1 #[(0, Go.Operand.tmp 66)], type := 63, pos := "node.go:114", after := #[{ on := 5, ground := Go.Ground.data }], guard := none }) rfl (fun K hK => ?_) AllReadyH.nil)
                (go_simp; have hE4 := hE3.alloc (.cells #[.string ⟨x.toArray⟩] 9); generalize w3.alloc (.cells #[.string ⟨x.toArray⟩] 9) = w4 at hE4 ⊢)
                refine hK.out _ _ (cellV hE4 (by repeat (first | exact List.Mem.head _ | refine List.Mem.tail _ ?_)) rfl) (fun hS => ?_)
                clear hK K
                try simp only [Act.put, sb, s0, sz]
                refine wpAnyH_ready (rs := [7]) (by kernel_rfl) (by simp) ?_
                refine (AllReadyH.cons (o := { dst := some 68, op := Go.Op.call { callee := Go.Callee.builtin Go.Builtin.append, args := #[Go.Operand.tmp 62, Go.Operand.tmp 67], argTypes := #[63, 63] }, type := 63, pos := "node.go:114", after := #[{ on := 1, ground := Go.Ground.data }, { on := 6, ground := Go.Ground.data }, { on := 5, ground := Go.Ground.chain }], guard := none }) rfl (fun K hK => ?_) AllReadyH.nil)
                (refine step_appendG hE4 3 rfl (by rfl) (by rfl) (by rfl) (by rfl) Try.underlying63 info_str (by decide) (m := 1) (news := [strv x]) (reads_pt hE4 0 rfl (off := 0) (fun j u hu => by rw [Nat.zero_add, List.getElem?_toArray]; exact hu)) rfl (by simp [strv, Value.oneCell']) (by omega) (by omega) ?_; intro ao' c' w6 hE5; simp only [List.set_cons_zero, List.set_cons_succ] at hE5)
                refine hK.out _ _ (cellV hE5 (by repeat (first | exact List.Mem.head _ | refine List.Mem.tail _ ?_)) rfl) (fun hS => ?_)
                clear hK K
                try simp only [Act.put, sb, s0, sz]
                refine takeW 8 ⟨some 69, .fieldAddr 70 (.tmp 7) 1, 0, "node.go:114", #[⟨0, .phase⟩, ⟨1, .phase⟩, ⟨2, .phase⟩, ⟨3, .phase⟩, ⟨4, .phase⟩, ⟨5, .phase⟩, ⟨6, .phase⟩, ⟨7, .phase⟩], none⟩ ?_ (.inl ⟨by rfl, ?_⟩) hS ?_
                rotate_left
                · (intro w hSw; (try dsimp only at hSw); go_simp; (try with_reducible rfl))
                try simp only [Act.put, sb, s0, sz]
                refine wpAnyH_ready (rs := [9]) (by kernel_rfl) (by simp) ?_
                refine (AllReadyH.cons (o := { dst := none, op := Go.Op.store 63 (Go.Operand.tmp 69) (Go.Operand.tmp 68), type := 0, pos := "node.go:114", after := #[{ on := 8, ground := Go.Ground.data }, { on := 7, ground := Go.Ground.data }, { on := 7, ground := Go.Ground.chain }, { on := 0, ground := Go.Ground.phase }, { on := 1, ground := Go.Ground.phase }, { on := 2, ground := Go.Ground.phase }, { on := 3, ground := Go.Ground.phase }, { on := 4, ground := Go.Ground.phase }, { on := 5, ground := Go.Ground.phase }, { on := 6, ground := Go.Ground.phase }, { on := 7, ground := Go.Ground.phase }], guard := none }) rfl (fun K hK => ?_) AllReadyH.nil)
                (have f9 := hE5.frozen 2 rfl 1; have c9 := hE5.cell 2 rfl 1; go_simp)
                refine hK.out _ _ (cellV (hE5.setCell 2 rfl 1 (.slice ao' (ks.length + 1) c')) (by repeat (first | exact List.Mem.head _ | refine List.Mem.tail _ ?_)) rfl) (fun hS => ?_)
                clear hK K
                try simp only [Act.put, sb, s0, sz]
                refine wpAnyH_done (by kernel_rfl) ?_ _
              rotate_right
              focus
                (go_simp; have hE4 := hE3.alloc (.cells #[.string ⟨x.toArray⟩] 9); generalize w3.alloc (.cells #[.string ⟨x.toArray⟩] 9) = w4 at hE4 ⊢)
                refine hK.out _ _ (cellV hE4 (by repeat (first | exact List.Mem.head _ | refine List.Mem.tail _ ?_)) rfl) (fun hS => ?_)
                clear hK K
                try simp only [Act.put, sb, s0, sz]
                refine wpAnyH_ready (rs := [1]) (by kernel_rfl) (by simp) ?_
                refine (AllReadyH.cons (o := { dst := some 62, op := Go.Op.load 63 (Go.Operand.tmp 61), type := 63, pos := "node.go:114", after := #[{ on := 0, ground := Go.Ground.data }], guard := none }) rfl (fun K hK => ?_) AllReadyH.nil)
                (first | (refine step_load1 hE4 2 rfl rfl (by rfl) (by rfl) (by simp [go_sem]) rfl ?_) | (refine step_load1 hE3 1 rfl rfl (by rfl) (by rfl) (by simp [go_sem]) rfl ?_) | (refine step_load1 hE.drew 1 rfl rfl (by rfl) (by rfl) (by simp [go_sem]) rfl ?_))
                refine hK.out _ _ (by first | exact (cellV hE4 (by repeat (first | exact List.Mem.head _ | refine List.Mem.tail _ ?_)) rfl) | exact (cellV hE3 (by repeat (first | exact List.Mem.head _ | refine List.Mem.tail _ ?_)) rfl) | exact (cellV hE.drew (by repeat (first | exact List.Mem.head _ | refine List.Mem.tail _ ?_)) rfl)) (fun hS => ?_)
                clear hK K
                try simp only [Act.put, sb, s0, sz]
                refine wpAnyH_ready (rs := [7]) (by kernel_rfl) (by simp) ?_
                refine (AllReadyH.cons (o := { dst := some 68, op := Go.Op.call { callee := Go.Callee.builtin Go.Builtin.append, args := #[Go.Operand.tmp 62, Go.Operand.tmp 67], argTypes := #[63, 63] }, type := 63, pos := "node.go:114", after := #[{ on := 1, ground := Go.Ground.data }, { on := 6, ground := Go.Ground.data }, { on := 5, ground := Go.Ground.chain }], guard := none }) rfl (fun K hK => ?_) AllReadyH.nil)
                (refine step_appendG hE4 3 rfl (by rfl) (by rfl) (by rfl) (by rfl) Try.underlying63 info_str (by decide) (m := 1) (news := [strv x]) (reads_pt hE4 0 rfl (off := 0) (fun j u hu => by rw [Nat.zero_add, List.getElem?_toArray]; exact hu)) rfl (by simp [strv, Value.oneCell']) (by omega) (by omega) ?_; intro ao' c' w6 hE5; simp only [List.set_cons_zero, List.set_cons_succ] at hE5)
                refine hK.out _ _ (cellV hE5 (by repeat (first | exact List.Mem.head _ | refine List.Mem.tail _ ?_)) rfl) (fun hS => ?_)
                clear hK K
                try simp only [Act.put, sb, s0, sz]
                refine takeW 8 ⟨some 69, .fieldAddr 70 (.tmp 7) 1, 0, "node.go:114", #[⟨0, .phase⟩, ⟨1, .phase⟩, ⟨2, .phase⟩, ⟨3, .phase⟩, ⟨4, .phase⟩, ⟨5, .phase⟩, ⟨6, .phase⟩, ⟨7, .phase⟩], none⟩ ?_ (.inl ⟨by rfl, ?_⟩) hS ?_
                rotate_left
                · (intro w hSw; (try dsimp only at hSw); go_simp; (try with_reducible rfl))
                try simp only [Act.put, sb, s0, sz]
                refine wpAnyH_ready (rs := [9]) (by kernel_rfl) (by simp) ?_
                refine (AllReadyH.cons (o := { dst := none, op := Go.Op.store 63 (Go.Operand.tmp 69) (Go.Operand.tmp 68), type := 0, pos := "node.go:114", after := #[{ on := 8, ground := Go.Ground.data }, { on := 7, ground := Go.Ground.data }, { on := 7, ground := Go.Ground.chain }, { on := 0, ground := Go.Ground.phase }, { on := 1, ground := Go.Ground.phase }, { on := 2, ground := Go.Ground.phase }, { on := 3, ground := Go.Ground.phase }, { on := 4, ground := Go.Ground.phase }, { on := 5, ground := Go.Ground.phase }, { on := 6, ground := Go.Ground.phase }, { on := 7, ground := Go.Ground.phase }], guard := none }) rfl (fun K hK => ?_) AllReadyH.nil)
                (have f9 := hE5.frozen 2 rfl 1; have c9 := hE5.cell 2 rfl 1; go_simp)
                refine hK.out _ _ (cellV (hE5.setCell 2 rfl 1 (.slice ao' (ks.length + 1) c')) (by repeat (first | exact List.Mem.head _ | refine List.Mem.tail _ ?_)) rfl) (fun hS => ?_)
                clear hK K
                try simp only [Act.put, sb, s0, sz]
                refine wpAnyH_done (by kernel_rfl) ?_ _
            all_goals
              have hE9 := (hE5.setCell 2 rfl 1 (.slice ao' (ks.length + 1) c')).tail
              simp only [List.set_cons_zero, List.set_cons_succ, List.setIfInBounds_toArray] at hE9
              generalize w6.setCell ⟨b7, 1, none⟩ (.slice ao' (ks.length + 1) c') = wz at hE9 ⊢
              have e1 : ks.length + 1 = (ks ++ [x]).length := by simp
              have e2 : ks.map strv ++ [strv x] = (ks ++ [x]).map strv := by simp
              rw [e2, e1] at hE9
              have hkl : (ks ++ [x]).length ≤ k + 1 := by rw [← e1]; omega
              clear e1 e2
              generalize ks ++ [x] = ks2 at *
              go_wp2_with (first
                | go_skip
                | ((with_reducible (show Go.wpList _ _ _ (Go.Oper.mk _ (.load 4 _) _ _ _ _ :: _) _ _)); refine wpl_load1 hE9 1 rfl rfl rfl rfl (by simp [go_sem]) rfl ?_))
              go_roundw
              case rel => exact ⟨k + 1, ⟨ks2, vs, sx⟩, ao', va, c', vc, hlt, by first | rfl | simp, HR.out, lx, hkl, by show vs.length ≤ k + 1; omega, hE9⟩
              case measure => simp [intOf] <;> omega
          · have HR := SL.hid (show (⟨ks, vs, s⟩ : Es) = RE by
              rw [← hR]
              by_cases hlt : k < nk
              · exact (rdE_stop (by show (s.err == 0) = false; simpa using fun h => hgo ⟨hlt, by simpa using h⟩)).symm
              · rw [show nk - k = 0 by omega]; rfl)
            clear hR
            have Hnode := SL.hid (show nodeR kw vw b = ⟨false, ks, vs, kids⟩ by rw [Hnode0.out, ← HR.out, HRK.out])
            have Hok := SL.hid (show okR kw vw b = ((s.err == 0) && (mayB kw vw ⟨false, ks, vs, kids⟩ && (pageU ⟨false, ks, vs, kids⟩ == b))) by rw [Hok0.out, Hnode.out, ← HR.out])
            obtain ⟨pe, hpe⟩ : ∃ pe, pe = putE kw vw ⟨false, ks, vs, kids⟩ := ⟨_, rfl⟩
            obtain ⟨pu, hpu⟩ : ∃ pu, pu = putU kw vw ⟨false, ks, vs, kids⟩ := ⟨_, rfl⟩
            have Hpe := SL.hid hpe.symm
            have Hpu := SL.hid hpu.symm
            have Hmb := SL.hid (show mayB kw vw ⟨false, ks, vs, kids⟩ = (pe == 0) by
              rw [hpe, putE, mayN, hr, Bool.true_and]
              cases mayB kw vw ⟨false, ks, vs, kids⟩ <;> rfl)
            have Hpg := SL.hid (show (pe == 0) = true → pageU ⟨false, ks, vs, kids⟩ = pu from fun h => by
              rw [← Hmb.out] at h
              rw [hpu, putU, mayN, hr, h]; rfl)
            clear hpe hpu
            have bk : ks.length ≤ 100000 := by omega
            have bv : vs.length ≤ 100000 := by omega
            have hgo' : k < nk → (s.err == 0) = false := fun hlt => by simpa using fun h => hgo ⟨hlt, by simpa using h⟩
            clear hgo
            cases d1 : decide (k < nk) with
            | true =>
              have c1 := hgo' (of_decide_eq_true d1)
              clear hgo'
              have c1' : (s.err != 0) = true := by simp only [bne, c1]; rfl
              have Rr := SL.hid (resN_bad hr (b := b) (by rw [Hok.out, c1]; rfl))
              go_wp2_with (first
                | (go_at_call 52; have H := Err_any hE; refine H.mono ?_; clear H; rintro e w9 ⟨rfl, rfl⟩)
                | go_skip
                | ((with_reducible (show Go.wpList _ _ _ (Go.Oper.mk _ (.load 68 (.tmp 2)) _ _ _ _ :: _) _ _)); refine wpl_loadW hE 6 rfl rfl rfl rfl Try.isAgg68 Try.sizeOf68 (xs := [.int .i64 kw, .int .i64 vw]) rfl ?_)
                | ((with_reducible (show Go.wpList _ _ _ (Go.Oper.mk _ (.load 70 (.tmp 7)) _ _ _ _ :: _) _ _)); refine wpl_loadW hE 1 rfl rfl rfl rfl Try.isAgg70 Try.sizeOf70 (xs := [.bool false, .slice ka ks.length kc, .slice va vs.length vc, .slice ia kids.length ic]) rfl ?_)
                | (go_at_call 33; have H := Put_node (kw := kw) (vw := vw) (leaf := false) bk bv bi hE (fun W h => reads_row h 2 rfl) (fun W h => reads_row h 3 rfl) (fun W h => reads_row h 4 rfl); rw [Hpu.out, Hpe.out] at H; refine H.mono ?_; clear H hE; rintro e w8 ⟨v, rfl, pa, pc, rfl, hE8⟩)
                | (go_at_call 52; have H := Err_any (hE8.front 1 rfl); refine H.mono ?_; clear H; rintro e w9 ⟨rfl, rfl⟩)
                | (go_at_call 60; have H := Equal_any (reads_row hE8 0 rfl) (hkb _ (hE8.suf (by repeat (first | exact List.suffix_refl _ | refine List.IsSuffix.trans ?_ (List.suffix_cons _ _))))); rw [Hq.out] at H; refine H.mono ?_; clear H; rintro e w9 ⟨rfl, rfl⟩)
                | ((with_reducible (show Go.wpList _ _ _ (Go.Oper.mk _ (.store _ _ _) _ _ _ _ :: _) _ _)); refine wpl_storeW hE8 6 rfl rfl rfl (xs := [.bool false, .slice none 0 0, .slice none 0 0, .slice none 0 0]) rfl rfl Try.sizeOf70 rfl (by simp [Value.oneCell']) rfl ?_; clear hE8; intro w hE9; simp only [List.set_cons_zero, List.set_cons_succ] at hE9))
              refine bodyPost_ret (results_cell2 rfl hE9 6 rfl rfl Try.isAgg70 Try.sizeOf70 rfl rfl) rfl ?_
              exact ⟨_, rfl, takeRes_zero Rr.out (hE9.suf ⟨[_, _, _, _, _, _, _, _], rfl⟩)⟩
            | false =>
              clear hgo'
              cases c1 : (s.err == 0) with
              | false =>
                have c1' : (s.err != 0) = true := by simp only [bne, c1]; rfl
                have Rr := SL.hid (resN_bad hr (b := b) (by rw [Hok.out, c1]; rfl))
                go_wp2_with (first
                  | go_skip
                  | ((with_reducible (show Go.wpList _ _ _ (Go.Oper.mk _ (.load 68 (.tmp 2)) _ _ _ _ :: _) _ _)); refine wpl_loadW hE 6 rfl rfl rfl rfl Try.isAgg68 Try.sizeOf68 (xs := [.int .i64 kw, .int .i64 vw]) rfl ?_)
                  | ((with_reducible (show Go.wpList _ _ _ (Go.Oper.mk _ (.load 70 (.tmp 7)) _ _ _ _ :: _) _ _)); refine wpl_loadW hE 1 rfl rfl rfl rfl Try.isAgg70 Try.sizeOf70 (xs := [.bool false, .slice ka ks.length kc, .slice va vs.length vc, .slice ia kids.length ic]) rfl ?_)
                  | (go_at_call 33; have H := Put_node (kw := kw) (vw := vw) (leaf := false) bk bv bi hE (fun W h => reads_row h 2 rfl) (fun W h => reads_row h 3 rfl) (fun W h => reads_row h 4 rfl); rw [Hpu.out, Hpe.out] at H; refine H.mono ?_; clear H hE; rintro e w8 ⟨v, rfl, pa, pc, rfl, hE8⟩)
                  | (go_at_call 52; have H := Err_any (hE8.front 1 rfl); refine H.mono ?_; clear H; rintro e w9 ⟨rfl, rfl⟩)
                  | (go_at_call 60; have H := Equal_any (reads_row hE8 0 rfl) (hkb _ (hE8.suf (by repeat (first | exact List.suffix_refl _ | refine List.IsSuffix.trans ?_ (List.suffix_cons _ _))))); rw [Hq.out] at H; refine H.mono ?_; clear H; rintro e w9 ⟨rfl, rfl⟩)
                  | ((with_reducible (show Go.wpList _ _ _ (Go.Oper.mk _ (.store _ _ _) _ _ _ _ :: _) _ _)); refine wpl_storeW hE8 6 rfl rfl rfl (xs := [.bool false, .slice none 0 0, .slice none 0 0, .slice none 0 0]) rfl rfl Try.sizeOf70 rfl (by simp [Value.oneCell']) rfl ?_; clear hE8; intro w hE9; simp only [List.set_cons_zero, List.set_cons_succ] at hE9))
                refine bodyPost_ret (results_cell2 rfl hE9 6 rfl rfl Try.isAgg70 Try.sizeOf70 rfl rfl) rfl ?_
                exact ⟨_, rfl, takeRes_zero Rr.out (hE9.suf ⟨[_, _, _, _, _, _, _, _], rfl⟩)⟩
              | true =>
                have c1' : (s.err != 0) = false := by simp only [bne, c1]; rfl
                cases c2 : (pe == 0) with
                | false =>
                  have c2' : (pe != 0) = true := by simp only [bne, c2]; rfl
                  have Rr := SL.hid (resN_bad hr (b := b) (by rw [Hok.out, Hmb.out, c1, c2]; rfl))
                  go_wp2_with (first
                    | go_skip
                    | ((with_reducible (show Go.wpList _ _ _ (Go.Oper.mk _ (.load 68 (.tmp 2)) _ _ _ _ :: _) _ _)); refine wpl_loadW hE 6 rfl rfl rfl rfl Try.isAgg68 Try.sizeOf68 (xs := [.int .i64 kw, .int .i64 vw]) rfl ?_)
                    | ((with_reducible (show Go.wpList _ _ _ (Go.Oper.mk _ (.load 70 (.tmp 7)) _ _ _ _ :: _) _ _)); refine wpl_loadW hE 1 rfl rfl rfl rfl Try.isAgg70 Try.sizeOf70 (xs := [.bool false, .slice ka ks.length kc, .slice va vs.length vc, .slice ia kids.length ic]) rfl ?_)
                    | (go_at_call 33; have H := Put_node (kw := kw) (vw := vw) (leaf := false) bk bv bi hE (fun W h => reads_row h 2 rfl) (fun W h => reads_row h 3 rfl) (fun W h => reads_row h 4 rfl); rw [Hpu.out, Hpe.out] at H; refine H.mono ?_; clear H hE; rintro e w8 ⟨v, rfl, pa, pc, rfl, hE8⟩)
                    | (go_at_call 52; have H := Err_any (hE8.front 1 rfl); refine H.mono ?_; clear H; rintro e w9 ⟨rfl, rfl⟩)
                    | (go_at_call 60; have H := Equal_any (reads_row hE8 0 rfl) (hkb _ (hE8.suf (by repeat (first | exact List.suffix_refl _ | refine List.IsSuffix.trans ?_ (List.suffix_cons _ _))))); rw [Hq.out] at H; refine H.mono ?_; clear H; rintro e w9 ⟨rfl, rfl⟩)
                    | ((with_reducible (show Go.wpList _ _ _ (Go.Oper.mk _ (.store _ _ _) _ _ _ _ :: _) _ _)); refine wpl_storeW hE8 6 rfl rfl rfl (xs := [.bool false, .slice none 0 0, .slice none 0 0, .slice none 0 0]) rfl rfl Try.sizeOf70 rfl (by simp [Value.oneCell']) rfl ?_; clear hE8; intro w hE9; simp only [List.set_cons_zero, List.set_cons_succ] at hE9))
                  refine bodyPost_ret (results_cell2 rfl hE9 6 rfl rfl Try.isAgg70 Try.sizeOf70 rfl rfl) rfl ?_
                  exact ⟨_, rfl, takeRes_zero Rr.out (hE9.suf ⟨[_, _, _, _, _, _, _, _], rfl⟩)⟩
                | true =>
                  have c2' : (pe != 0) = false := by simp only [bne, c2]; rfl
                  cases hq : (pu == b) with
                  | false =>
                    have Hq := SL.hid hq
                    have Rr := SL.hid (resN_bad hr (b := b) (by rw [Hok.out, Hmb.out, c1, c2, Hpg.out c2, hq]; rfl))
                    clear hq
                    go_wp2_with (first
                      | go_skip
                      | ((with_reducible (show Go.wpList _ _ _ (Go.Oper.mk _ (.load 68 (.tmp 2)) _ _ _ _ :: _) _ _)); refine wpl_loadW hE 6 rfl rfl rfl rfl Try.isAgg68 Try.sizeOf68 (xs := [.int .i64 kw, .int .i64 vw]) rfl ?_)
                      | ((with_reducible (show Go.wpList _ _ _ (Go.Oper.mk _ (.load 70 (.tmp 7)) _ _ _ _ :: _) _ _)); refine wpl_loadW hE 1 rfl rfl rfl rfl Try.isAgg70 Try.sizeOf70 (xs := [.bool false, .slice ka ks.length kc, .slice va vs.length vc, .slice ia kids.length ic]) rfl ?_)
                      | (go_at_call 33; have H := Put_node (kw := kw) (vw := vw) (leaf := false) bk bv bi hE (fun W h => reads_row h 2 rfl) (fun W h => reads_row h 3 rfl) (fun W h => reads_row h 4 rfl); rw [Hpu.out, Hpe.out] at H; refine H.mono ?_; clear H hE; rintro e w8 ⟨v, rfl, pa, pc, rfl, hE8⟩)
                      | (go_at_call 52; have H := Err_any (hE8.front 1 rfl); refine H.mono ?_; clear H; rintro e w9 ⟨rfl, rfl⟩)
                      | (go_at_call 60; have H := Equal_any (reads_row hE8 0 rfl) (hkb _ (hE8.suf (by repeat (first | exact List.suffix_refl _ | refine List.IsSuffix.trans ?_ (List.suffix_cons _ _))))); rw [Hq.out] at H; refine H.mono ?_; clear H; rintro e w9 ⟨rfl, rfl⟩)
                      | ((with_reducible (show Go.wpList _ _ _ (Go.Oper.mk _ (.store _ _ _) _ _ _ _ :: _) _ _)); refine wpl_storeW hE8 6 rfl rfl rfl (xs := [.bool false, .slice none 0 0, .slice none 0 0, .slice none 0 0]) rfl rfl Try.sizeOf70 rfl (by simp [Value.oneCell']) rfl ?_; clear hE8; intro w hE9; simp only [List.set_cons_zero, List.set_cons_succ] at hE9))
                    refine bodyPost_ret (results_cell2 rfl hE9 6 rfl rfl Try.isAgg70 Try.sizeOf70 rfl rfl) rfl ?_
                    exact ⟨_, rfl, takeRes_zero Rr.out (hE9.suf ⟨[_, _, _, _, _, _, _, _], rfl⟩)⟩
                  | true =>
                    have Hq := SL.hid hq
                    have Rr := SL.hid (resN_good hr (b := b) (by rw [Hok.out, Hmb.out, c1, c2, Hpg.out c2, hq]; rfl))
                    clear hq
                    go_wp2_with (first
                      | go_skip
                      | ((with_reducible (show Go.wpList _ _ _ (Go.Oper.mk _ (.load 68 (.tmp 2)) _ _ _ _ :: _) _ _)); refine wpl_loadW hE 6 rfl rfl rfl rfl Try.isAgg68 Try.sizeOf68 (xs := [.int .i64 kw, .int .i64 vw]) rfl ?_)
                      | ((with_reducible (show Go.wpList _ _ _ (Go.Oper.mk _ (.load 70 (.tmp 7)) _ _ _ _ :: _) _ _)); refine wpl_loadW hE 1 rfl rfl rfl rfl Try.isAgg70 Try.sizeOf70 (xs := [.bool false, .slice ka ks.length kc, .slice va vs.length vc, .slice ia kids.length ic]) rfl ?_)
                      | (go_at_call 33; have H := Put_node (kw := kw) (vw := vw) (leaf := false) bk bv bi hE (fun W h => reads_row h 2 rfl) (fun W h => reads_row h 3 rfl) (fun W h => reads_row h 4 rfl); rw [Hpu.out, Hpe.out] at H; refine H.mono ?_; clear H hE; rintro e w8 ⟨v, rfl, pa, pc, rfl, hE8⟩)
                      | (go_at_call 52; have H := Err_any (hE8.front 1 rfl); refine H.mono ?_; clear H; rintro e w9 ⟨rfl, rfl⟩)
                      | (go_at_call 60; have H := Equal_any (reads_row hE8 0 rfl) (hkb _ (hE8.suf (by repeat (first | exact List.suffix_refl _ | refine List.IsSuffix.trans ?_ (List.suffix_cons _ _))))); rw [Hq.out] at H; refine H.mono ?_; clear H; rintro e w9 ⟨rfl, rfl⟩)
                      | ((with_reducible (show Go.wpList _ _ _ (Go.Oper.mk _ (.load 70 (.tmp 7)) _ _ _ _ :: _) _ _)); refine wpl_loadW hE8 2 rfl rfl rfl rfl Try.isAgg70 Try.sizeOf70 (xs := [.bool false, .slice ka ks.length kc, .slice va vs.length vc, .slice ia kids.length ic]) rfl ?_)
                      | ((with_reducible (show Go.wpList _ _ _ (Go.Oper.mk _ (.store _ _ _) _ _ _ _ :: _) _ _)); refine wpl_storeW hE8 6 rfl rfl rfl (xs := [.bool false, .slice ka ks.length kc, .slice va vs.length vc, .slice ia kids.length ic]) rfl rfl Try.sizeOf70 rfl (by simp [Value.oneCell']) rfl ?_; clear hE8; intro w hE9; simp only [List.set_cons_zero, List.set_cons_succ] at hE9))
                    refine bodyPost_ret (results_cell2 rfl hE9 6 rfl rfl Try.isAgg70 Try.sizeOf70 rfl rfl) rfl ?_
                    refine ⟨_, rfl, ka, kc, va, vc, ia, ic, ?_, ?_⟩
                    · rw [Rr.out.1, Rr.out.2, Hnode.out]; rfl
                    · rw [Rr.out.1, Hnode.out]
                      exact ((hE9.erase 7).erase 6).suf ⟨[_, _, _], rfl⟩
      | false =>
        clear hgo'
        go_wp2_with (first
          | go_skip)
        rw [← hs4] at hE Hents4
        have hEs : Ent (opener o s4.bs s4.err :: pt b7 (.cells #[.bool false, .slice none ([] : List (List UInt8)).length 0, .slice none ([] : List (List UInt8)).length 0, .slice ia kids.length ic] 70) :: rowS none 0 [] :: rowS none 0 [] :: rowI ia ic kids :: tkB4 b4 b2 kw vw l) _ := ((hE.nil 9 1).nil 9 1).front 2 rfl |>.front 3 rfl |>.front 1 rfl
        clear hE hs4 hkn hk1 hsl d0
        go_loopw [10] (fun i wr => TK2 false kw vw o b7 b.length nk RE ia ic kids (tkB4 b4 b2 kw vw l) i wr) (fun i _ => nk - (intOf i).toNat)
        case atStart => exact ⟨0, ⟨[], [], s4⟩, none, none, 0, 0, Nat.zero_le _, rfl, Hents4.out, hl4, Nat.le_refl _, Nat.le_refl _, hEs⟩
        case round =>
          clear hEs
          obtain ⟨k, ⟨ks, vs, s⟩, ka, va, kc, vc, hkn, rfl, hR, hsl, hk1, hv1', hE⟩ := hrel
          simp only at hR hsl hk1 hv1' hE
          by_cases hgo : k < nk ∧ (s.err == 0) = true
          · obtain ⟨hlt, he⟩ := hgo
            have HR := SL.hid (show rdE false kw vw (nk - (k + 1)) (rdStep false kw vw ⟨ks, vs, s⟩) = RE by
              rw [← hR, show nk - k = (nk - (k + 1)) + 1 by omega, rdE_go (by exact he)])
            clear hR
            have X1 : ∀ {l : List HProp} {w : World}, Ent (opener o s.bs s.err :: l) w → Calls Try.prog 56 #[.pointer (some ⟨o, 0, none⟩), .int .i64 kw] w (Ret fun v w' => v = .string ⟨(txV kw s).toArray⟩ ∧ Ent (opener o (tx kw s).bs (tx kw s).err :: l) w') := fun h => sText h (by omega) kw
            have lx : (tx kw s).bs.length ≤ b.length := Nat.le_trans (tx_len _ _) hsl
            have HS : rdStep false kw vw ⟨ks, vs, s⟩ = ⟨ks ++ [txV kw s], vs, tx kw s⟩ := rfl
            rw [HS] at HR
            clear HS
            generalize tx kw s = sx at *
            generalize txV kw s = x at *
            go_wp2_with (first
              | go_skip
              | (go_at_call 52; have H := Err_any hE; refine H.mono ?_; clear H; rintro e w9 ⟨rfl, rfl⟩))
            refine wp_region_held_drew (S := (fun w' => (w'.cell? ⟨b2, 0, none⟩ = some (.int .i64 kw)))) (by kernel_rfl) (cellV hE.drew (by repeat (first | exact List.Mem.head _ | refine List.Mem.tail _ ?_)) rfl) (fun hS => ?_)
            refine takeW 0 ⟨some 61, .fieldAddr 70 (.tmp 7) 1, 0, "node.go:114", #[], none⟩ ?_ (.inl ⟨by rfl, ?_⟩) hS ?_
            rotate_left
            · (intro w hSw; (try dsimp only at hSw); go_simp; (try with_reducible rfl))
            try simp only [Act.put, sb, s0, sz]
            refine takeW 2 ⟨some 63, .move (.tmp 6), 102, "node.go:114", #[], none⟩ ?_ (.inl ⟨by rfl, ?_⟩) hS ?_
            rotate_left
            · (intro w hSw; (try dsimp only at hSw); go_simp; (try with_reducible rfl))
            try simp only [Act.put, sb, s0, sz]
            refine takeW 3 ⟨some 64, .fieldAddr 68 (.tmp 2) 0, 0, "node.go:114", #[], none⟩ ?_ (.inl ⟨by rfl, ?_⟩) hS ?_
            rotate_left
            · (intro w hSw; (try dsimp only at hSw); go_simp; (try with_reducible rfl))
            try simp only [Act.put, sb, s0, sz]
            refine takeW 4 ⟨some 65, .load 3 (.tmp 64), 3, "node.go:114", #[⟨3, .data⟩], none⟩ ?_ (.inl ⟨by rfl, ?_⟩) hS ?_
            rotate_left
            · (intro w hSw; (try dsimp only at hSw); go_simp; (try with_reducible rfl))
            try simp only [Act.put, sb, s0, sz]
            refine wpAnyH_ready (rs := [1, 5]) (by kernel_rfl) (by simp) ?_
            refine (AllReadyH.cons (o := { dst := some 62, op := Go.Op.load 63 (Go.Operand.tmp 61), type := 63, pos := "node.go:114", after := #[{ on := 0, ground := Go.Ground.data }], guard := none }) rfl (fun K hK => ?_) (AllReadyH.cons (o := { dst := some 66, op := Go.Op.call { callee := Go.Callee.value (Go.Operand.func 56), args := #[Go.Operand.tmp 63, Go.Operand.tmp 65], argTypes := #[102, 3] }, type := 9, pos := "node.go:114", after := #[{ on := 2, ground := Go.Ground.data }, { on := 4, ground := Go.Ground.data }], guard := none }) rfl (fun K hK => ?_) AllReadyH.nil))
            focus
              (first | (refine step_load1 hE4 2 rfl rfl (by rfl) (by rfl) (by simp [go_sem]) rfl ?_) | (refine step_load1 hE3 1 rfl rfl (by rfl) (by rfl) (by simp [go_sem]) rfl ?_) | (refine step_load1 hE.drew 1 rfl rfl (by rfl) (by rfl) (by simp [go_sem]) rfl ?_))
              refine hK.out _ _ (by first | exact (cellV hE4 (by repeat (first | exact List.Mem.head _ | refine List.Mem.tail _ ?_)) rfl) | exact (cellV hE3 (by repeat (first | exact List.Mem.head _ | refine List.Mem.tail _ ?_)) rfl) | exact (cellV hE.drew (by repeat (first | exact List.Mem.head _ | refine List.Mem.tail _ ?_)) rfl)) (fun hS => ?_)
              clear hK K
              try simp only [Act.put, sb, s0, sz]
              refine wpAnyH_ready (rs := [5]) (by kernel_rfl) (by simp) ?_
              refine (AllReadyH.cons (o := { dst := some 66, op := Go.Op.call { callee := Go.Callee.value (Go.Operand.func 56), args := #[Go.Operand.tmp 63, Go.Operand.tmp 65], argTypes := #[102, 3] }, type := 9, pos := "node.go:114", after := #[{ on := 2, ground := Go.Ground.data }, { on := 4, ground := Go.Ground.data }], guard := none }) rfl (fun K hK => ?_) AllReadyH.nil)
              (go_simp; refine (X1 hE.drew).mono ?_; rintro e w3 ⟨v, rfl, rfl, hE3⟩)
              refine hK.out _ _ (cellV hE3 (by repeat (first | exact List.Mem.head _ | refine List.Mem.tail _ ?_)) rfl) (fun hS => ?_)
              clear hK K
              try simp only [Act.put, sb, s0, sz]
              refine wpAnyH_ready (rs := [6]) (by kernel_rfl) (by simp) ?_
              refine (AllReadyH.cons (o := { dst := some 67, op := Go.Op.buildSlice 63 1 #[(0, Go.Operand.tmp 66)], type := 63, pos := "node.go:114", after := #[{ on := 5, ground := Go.Ground.data }], guard := none }) rfl (fun K hK => ?_) AllReadyH.nil)
              (go_simp; have hE4 := hE3.alloc (.cells #[.string ⟨x.toArray⟩] 9); generalize w3.alloc (.cells #[.string ⟨x.toArray⟩] 9) = w4 at hE4 ⊢)
              refine hK.out _ _ (cellV hE4 (by repeat (first | exact List.Mem.head _ | refine List.Mem.tail _ ?_)) rfl) (fun hS => ?_)
              clear hK K
              try simp only [Act.put, sb, s0, sz]
              refine wpAnyH_ready (rs := [7]) (by kernel_rfl) (by simp) ?_
              refine (AllReadyH.cons (o := { dst := some 68, op := Go.Op.call { callee := Go.Callee.builtin Go.Builtin.append, args := #[Go.Operand.tmp 62, Go.Operand.tmp 67], argTypes := #[63, 63] }, type := 63, pos := "node.go:114", after := #[{ on := 1, ground := Go.Ground.data }, { on := 6, ground := Go.Ground.data }, { on := 5, ground := Go.Ground.chain }], guard := none }) rfl (fun K hK => ?_) AllReadyH.nil)
              (refine step_appendG hE4 3 rfl (by rfl) (by rfl) (by rfl) (by rfl) Try.underlying63 info_str (by decide) (m := 1) (news := [strv x]) (reads_pt hE4 0 rfl (off := 0) (fun j u hu => by rw [Nat.zero_add, List.getElem?_toArray]; exact hu)) rfl (by simp [strv, Value.oneCell']) (by omega) (by omega) ?_; intro ao' c' w6 hE5; simp only [List.set_cons_zero, List.set_cons_succ] at hE5)
              refine hK.out _ _ (cellV hE5 (by repeat (first | exact List.Mem.head _ | refine List.Mem.tail _ ?_)) rfl) (fun hS => ?_)
              clear hK K
              try simp only [Act.put, sb, s0, sz]
              refine takeW 8 ⟨some 69, .fieldAddr 70 (.tmp 7) 1, 0, "node.go:114", #[⟨0, .phase⟩, ⟨1, .phase⟩, ⟨2, .phase⟩, ⟨3, .phase⟩, ⟨4, .phase⟩, ⟨5, .phase⟩, ⟨6, .phase⟩, ⟨7, .phase⟩], none⟩ ?_ (.inl ⟨by rfl, ?_⟩) hS ?_
              rotate_left
              · (intro w hSw; (try dsimp only at hSw); go_simp; (try with_reducible rfl))
              try simp only [Act.put, sb, s0, sz]
              refine wpAnyH_ready (rs := [9]) (by kernel_rfl) (by simp) ?_
              refine (AllReadyH.cons (o := { dst := none, op := Go.Op.store 63 (Go.Operand.tmp 69) (Go.Operand.tmp 68), type := 0, pos := "node.go:114", after := #[{ on := 8, ground := Go.Ground.data }, { on := 7, ground := Go.Ground.data }, { on := 7, ground := Go.Ground.chain }, { on := 0, ground := Go.Ground.phase }, { on := 1, ground := Go.Ground.phase }, { on := 2, ground := Go.Ground.phase }, { on := 3, ground := Go.Ground.phase }, { on := 4, ground := Go.Ground.phase }, { on := 5, ground := Go.Ground.phase }, { on := 6, ground := Go.Ground.phase }, { on := 7, ground := Go.Ground.phase }], guard := none }) rfl (fun K hK => ?_) AllReadyH.nil)
              (have f9 := hE5.frozen 2 rfl 1; have c9 := hE5.cell 2 rfl 1; go_simp)
              refine hK.out _ _ (cellV (hE5.setCell 2 rfl 1 (.slice ao' (ks.length + 1) c')) (by repeat (first | exact List.Mem.head _ | refine List.Mem.tail _ ?_)) rfl) (fun hS => ?_)
              clear hK K
              try simp only [Act.put, sb, s0, sz]
              refine wpAnyH_done (by kernel_rfl) ?_ _
            rotate_right
            focus
              (go_simp; refine (X1 hE.drew).mono ?_; rintro e w3 ⟨v, rfl, rfl, hE3⟩)
              refine hK.out _ _ (cellV hE3 (by repeat (first | exact List.Mem.head _ | refine List.Mem.tail _ ?_)) rfl) (fun hS => ?_)
              clear hK K
              try simp only [Act.put, sb, s0, sz]
              refine wpAnyH_ready (rs := [1, 6]) (by kernel_rfl) (by simp) ?_
              refine (AllReadyH.cons (o := { dst := some 62, op := Go.Op.load 63 (Go.Operand.tmp 61), type := 63, pos := "node.go:114", after := #[{ on := 0, ground := Go.Ground.data }], guard := none }) rfl (fun K hK => ?_) (AllReadyH.cons (o := { dst := some 67, op := Go.Op.buildSlice 63 1 #[(0, Go.Operand.tmp 66)], type := 63, pos := "node.go:114", after := #[{ on := 5, ground := Go.Ground.data }], guard := none }) rfl (fun K hK => ?_) AllReadyH.nil))
              focus
                (first | (refine step_load1 hE4 2 rfl rfl (by rfl) (by rfl) (by simp [go_sem]) rfl ?_) | (refine step_load1 hE3 1 rfl rfl (by rfl) (by rfl) (by simp [go_sem]) rfl ?_) | (refine step_load1 hE.drew 1 rfl rfl (by rfl) (by rfl) (by simp [go_sem]) rfl ?_))
                refine hK.out _ _ (by first | exact (cellV hE4 (by repeat (first | exact List.Mem.head _ | refine List.Mem.tail _ ?_)) rfl) | exact (cellV hE3 (by repeat (first | exact List.Mem.head _ | refine List.Mem.tail _ ?_)) rfl) | exact (cellV hE.drew (by repeat (first | exact List.Mem.head _ | refine List.Mem.tail _ ?_)) rfl)) (fun hS => ?_)
                clear hK K
                try simp only [Act.put, sb, s0, sz]
                refine wpAnyH_ready (rs := [6]) (by kernel_rfl) (by simp) ?_
                refine (AllReadyH.cons (o := { dst := some 67, op := Go.Op.buildSlice 63 1 #[(0, Go.Operand.tmp 66)], type := 63, pos := "node.go:114", after := #[{ on := 5, ground := Go.Ground.data }], guard := none }) rfl (fun K hK => ?_) AllReadyH.nil)
                (go_simp; have hE4 := hE3.alloc (.cells #[.string ⟨x.toArray⟩] 9); generalize w3.alloc (.cells #[.string ⟨x.toArray⟩] 9) = w4 at hE4 ⊢)
                refine hK.out _ _ (cellV hE4 (by repeat (first | exact List.Mem.head _ | refine List.Mem.tail _ ?_)) rfl) (fun hS => ?_)
                clear hK K
                try simp only [Act.put, sb, s0, sz]
                refine wpAnyH_ready (rs := [7]) (by kernel_rfl) (by simp) ?_
                refine (AllReadyH.cons (o := { dst := some 68, op := Go.Op.call { callee := Go.Callee.builtin Go.Builtin.append, args := #[Go.Operand.tmp 62, Go.Operand.tmp 67], argTypes := #[63, 63] }, type := 63, pos := "node.go:114", after := #[{ on := 1, ground := Go.Ground.data }, { on := 6, ground := Go.Ground.data }, { on := 5, ground := Go.Ground.chain }], guard := none }) rfl (fun K hK => ?_) AllReadyH.nil)
                (refine step_appendG hE4 3 rfl (by rfl) (by rfl) (by rfl) (by rfl) Try.underlying63 info_str (by decide) (m := 1) (news := [strv x]) (reads_pt hE4 0 rfl (off := 0) (fun j u hu => by rw [Nat.zero_add, List.getElem?_toArray]; exact hu)) rfl (by simp [strv, Value.oneCell']) (by omega) (by omega) ?_; intro ao' c' w6 hE5; simp only [List.set_cons_zero, List.set_cons_succ] at hE5)
                refine hK.out _ _ (cellV hE5 (by repeat (first | exact List.Mem.head _ | refine List.Mem.tail _ ?_)) rfl) (fun hS => ?_)
                clear hK K
                try simp only [Act.put, sb, s0, sz]
                refine takeW 8 ⟨some 69, .fieldAddr 70 (.tmp 7) 1, 0, "node.go:114", #[⟨0, .phase⟩, ⟨1, .phase⟩, ⟨2, .phase⟩, ⟨3, .phase⟩, ⟨4, .phase⟩, ⟨5, .phase⟩, ⟨6, .phase⟩, ⟨7, .phase⟩], none⟩ ?_ (.inl ⟨by rfl, ?_⟩) hS ?_
                rotate_left
                · (intro w hSw; (try dsimp only at hSw); go_simp; (try with_reducible rfl))
                try simp only [Act.put, sb, s0, sz]
                refine wpAnyH_ready (rs := [9]) (by kernel_rfl) (by simp) ?_
                refine (AllReadyH.cons (o := { dst := none, op := Go.Op.store 63 (Go.Operand.tmp 69) (Go.Operand.tmp 68), type := 0, pos := "node.go:114", after := #[{ on := 8, ground := Go.Ground.data }, { on := 7, ground := Go.Ground.data }, { on := 7, ground := Go.Ground.chain }, { on := 0, ground := Go.Ground.phase }, { on := 1, ground := Go.Ground.phase }, { on := 2, ground := Go.Ground.phase }, { on := 3, ground := Go.Ground.phase }, { on := 4, ground := Go.Ground.phase }, { on := 5, ground := Go.Ground.phase }, { on := 6, ground := Go.Ground.phase }, { on := 7, ground := Go.Ground.phase }], guard := none }) rfl (fun K hK => ?_) AllReadyH.nil)
                (have f9 := hE5.frozen 2 rfl 1; have c9 := hE5.cell 2 rfl 1; go_simp)
                refine hK.out _ _ (cellV (hE5.setCell 2 rfl 1 (.slice ao' (ks.length + 1) c')) (by repeat (first | exact List.Mem.head _ | refine List.Mem.tail _ ?_)) rfl) (fun hS => ?_)
                clear hK K
                try simp only [Act.put, sb, s0, sz]
                refine wpAnyH_done (by kernel_rfl) ?_ _
              rotate_right
              focus
                (go_simp; have hE4 := hE3.alloc (.cells #[.string ⟨x.toArray⟩] 9); generalize w3.alloc (.cells #[.string ⟨x.toArray⟩] 9) = w4 at hE4 ⊢)
                refine hK.out _ _ (cellV hE4 (by repeat (first | exact List.Mem.head _ | refine List.Mem.tail _ ?_)) rfl) (fun hS => ?_)
                clear hK K
                try simp only [Act.put, sb, s0, sz]
                refine wpAnyH_ready (rs := [1]) (by kernel_rfl) (by simp) ?_
                refine (AllReadyH.cons (o := { dst := some 62, op := Go.Op.load 63 (Go.Operand.tmp 61), type := 63, pos := "node.go:114", after := #[{ on := 0, ground := Go.Ground.data }], guard := none }) rfl (fun K hK => ?_) AllReadyH.nil)
                (first | (refine step_load1 hE4 2 rfl rfl (by rfl) (by rfl) (by simp [go_sem]) rfl ?_) | (refine step_load1 hE3 1 rfl rfl (by rfl) (by rfl) (by simp [go_sem]) rfl ?_) | (refine step_load1 hE.drew 1 rfl rfl (by rfl) (by rfl) (by simp [go_sem]) rfl ?_))
                refine hK.out _ _ (by first | exact (cellV hE4 (by repeat (first | exact List.Mem.head _ | refine List.Mem.tail _ ?_)) rfl) | exact (cellV hE3 (by repeat (first | exact List.Mem.head _ | refine List.Mem.tail _ ?_)) rfl) | exact (cellV hE.drew (by repeat (first | exact List.Mem.head _ | refine List.Mem.tail _ ?_)) rfl)) (fun hS => ?_)
                clear hK K
                try simp only [Act.put, sb, s0, sz]
                refine wpAnyH_ready (rs := [7]) (by kernel_rfl) (by simp) ?_
                refine (AllReadyH.cons (o := { dst := some 68, op := Go.Op.call { callee := Go.Callee.builtin Go.Builtin.append, args := #[Go.Operand.tmp 62, Go.Operand.tmp 67], argTypes := #[63, 63] }, type := 63, pos := "node.go:114", after := #[{ on := 1, ground := Go.Ground.data }, { on := 6, ground := Go.Ground.data }, { on := 5, ground := Go.Ground.chain }], guard := none }) rfl (fun K hK => ?_) AllReadyH.nil)
                (refine step_appendG hE4 3 rfl (by rfl) (by rfl) (by rfl) (by rfl) Try.underlying63 info_str (by decide) (m := 1) (news := [strv x]) (reads_pt hE4 0 rfl (off := 0) (fun j u hu => by rw [Nat.zero_add, List.getElem?_toArray]; exact hu)) rfl (by simp [strv, Value.oneCell']) (by omega) (by omega) ?_; intro ao' c' w6 hE5; simp only [List.set_cons_zero, List.set_cons_succ] at hE5)
                refine hK.out _ _ (cellV hE5 (by repeat (first | exact List.Mem.head _ | refine List.Mem.tail _ ?_)) rfl) (fun hS => ?_)
                clear hK K
                try simp only [Act.put, sb, s0, sz]
                refine takeW 8 ⟨some 69, .fieldAddr 70 (.tmp 7) 1, 0, "node.go:114", #[⟨0, .phase⟩, ⟨1, .phase⟩, ⟨2, .phase⟩, ⟨3, .phase⟩, ⟨4, .phase⟩, ⟨5, .phase⟩, ⟨6, .phase⟩, ⟨7, .phase⟩], none⟩ ?_ (.inl ⟨by rfl, ?_⟩) hS ?_
                rotate_left
                · (intro w hSw; (try dsimp only at hSw); go_simp; (try with_reducible rfl))
                try simp only [Act.put, sb, s0, sz]
                refine wpAnyH_ready (rs := [9]) (by kernel_rfl) (by simp) ?_
                refine (AllReadyH.cons (o := { dst := none, op := Go.Op.store 63 (Go.Operand.tmp 69) (Go.Operand.tmp 68), type := 0, pos := "node.go:114", after := #[{ on := 8, ground := Go.Ground.data }, { on := 7, ground := Go.Ground.data }, { on := 7, ground := Go.Ground.chain }, { on := 0, ground := Go.Ground.phase }, { on := 1, ground := Go.Ground.phase }, { on := 2, ground := Go.Ground.phase }, { on := 3, ground := Go.Ground.phase }, { on := 4, ground := Go.Ground.phase }, { on := 5, ground := Go.Ground.phase }, { on := 6, ground := Go.Ground.phase }, { on := 7, ground := Go.Ground.phase }], guard := none }) rfl (fun K hK => ?_) AllReadyH.nil)
                (have f9 := hE5.frozen 2 rfl 1; have c9 := hE5.cell 2 rfl 1; go_simp)
                refine hK.out _ _ (cellV (hE5.setCell 2 rfl 1 (.slice ao' (ks.length + 1) c')) (by repeat (first | exact List.Mem.head _ | refine List.Mem.tail _ ?_)) rfl) (fun hS => ?_)
                clear hK K
                try simp only [Act.put, sb, s0, sz]
                refine wpAnyH_done (by kernel_rfl) ?_ _
            all_goals
              have hE9 := (hE5.setCell 2 rfl 1 (.slice ao' (ks.length + 1) c')).tail
              simp only [List.set_cons_zero, List.set_cons_succ, List.setIfInBounds_toArray] at hE9
              generalize w6.setCell ⟨b7, 1, none⟩ (.slice ao' (ks.length + 1) c') = wz at hE9 ⊢
              have e1 : ks.length + 1 = (ks ++ [x]).length := by simp
              have e2 : ks.map strv ++ [strv x] = (ks ++ [x]).map strv := by simp
              rw [e2, e1] at hE9
              have hkl : (ks ++ [x]).length ≤ k + 1 := by rw [← e1]; omega
              clear e1 e2
              generalize ks ++ [x] = ks2 at *
              go_wp2_with (first
                | go_skip
                | ((with_reducible (show Go.wpList _ _ _ (Go.Oper.mk _ (.load 4 _) _ _ _ _ :: _) _ _)); refine wpl_load1 hE9 1 rfl rfl rfl rfl (by simp [go_sem]) rfl ?_))
              go_roundw
              case rel => exact ⟨k + 1, ⟨ks2, vs, sx⟩, ao', va, c', vc, hlt, by first | rfl | simp, HR.out, lx, hkl, by show vs.length ≤ k + 1; omega, hE9⟩
              case measure => simp [intOf] <;> omega
          · have HR := SL.hid (show (⟨ks, vs, s⟩ : Es) = RE by
              rw [← hR]
              by_cases hlt : k < nk
              · exact (rdE_stop (by show (s.err == 0) = false; simpa using fun h => hgo ⟨hlt, by simpa using h⟩)).symm
              · rw [show nk - k = 0 by omega]; rfl)
            clear hR
            have Hnode := SL.hid (show nodeR kw vw b = ⟨false, ks, vs, kids⟩ by rw [Hnode0.out, ← HR.out, HRK.out])
            have Hok := SL.hid (show okR kw vw b = ((s.err == 0) && (mayB kw vw ⟨false, ks, vs, kids⟩ && (pageU ⟨false, ks, vs, kids⟩ == b))) by rw [Hok0.out, Hnode.out, ← HR.out])
            obtain ⟨pe, hpe⟩ : ∃ pe, pe = putE kw vw ⟨false, ks, vs, kids⟩ := ⟨_, rfl⟩
            obtain ⟨pu, hpu⟩ : ∃ pu, pu = putU kw vw ⟨false, ks, vs, kids⟩ := ⟨_, rfl⟩
            have Hpe := SL.hid hpe.symm
            have Hpu := SL.hid hpu.symm
            have Hmb := SL.hid (show mayB kw vw ⟨false, ks, vs, kids⟩ = (pe == 0) by
              rw [hpe, putE, mayN, hr, Bool.true_and]
              cases mayB kw vw ⟨false, ks, vs, kids⟩ <;> rfl)
            have Hpg := SL.hid (show (pe == 0) = true → pageU ⟨false, ks, vs, kids⟩ = pu from fun h => by
              rw [← Hmb.out] at h
              rw [hpu, putU, mayN, hr, h]; rfl)
            clear hpe hpu
            have bk : ks.length ≤ 100000 := by omega
            have bv : vs.length ≤ 100000 := by omega
            have hgo' : k < nk → (s.err == 0) = false := fun hlt => by simpa using fun h => hgo ⟨hlt, by simpa using h⟩
            clear hgo
            cases d1 : decide (k < nk) with
            | true =>
              have c1 := hgo' (of_decide_eq_true d1)
              clear hgo'
              have c1' : (s.err != 0) = true := by simp only [bne, c1]; rfl
              have Rr := SL.hid (resN_bad hr (b := b) (by rw [Hok.out, c1]; rfl))
              go_wp2_with (first
                | (go_at_call 52; have H := Err_any hE; refine H.mono ?_; clear H; rintro e w9 ⟨rfl, rfl⟩)
                | go_skip
                | ((with_reducible (show Go.wpList _ _ _ (Go.Oper.mk _ (.load 68 (.tmp 2)) _ _ _ _ :: _) _ _)); refine wpl_loadW hE 6 rfl rfl rfl rfl Try.isAgg68 Try.sizeOf68 (xs := [.int .i64 kw, .int .i64 vw]) rfl ?_)
                | ((with_reducible (show Go.wpList _ _ _ (Go.Oper.mk _ (.load 70 (.tmp 7)) _ _ _ _ :: _) _ _)); refine wpl_loadW hE 1 rfl rfl rfl rfl Try.isAgg70 Try.sizeOf70 (xs := [.bool false, .slice ka ks.length kc, .slice va vs.length vc, .slice ia kids.length ic]) rfl ?_)
                | (go_at_call 33; have H := Put_node (kw := kw) (vw := vw) (leaf := false) bk bv bi hE (fun W h => reads_row h 2 rfl) (fun W h => reads_row h 3 rfl) (fun W h => reads_row h 4 rfl); rw [Hpu.out, Hpe.out] at H; refine H.mono ?_; clear H hE; rintro e w8 ⟨v, rfl, pa, pc, rfl, hE8⟩)
                | (go_at_call 52; have H := Err_any (hE8.front 1 rfl); refine H.mono ?_; clear H; rintro e w9 ⟨rfl, rfl⟩)
                | (go_at_call 60; have H := Equal_any (reads_row hE8 0 rfl) (hkb _ (hE8.suf (by repeat (first | exact List.suffix_refl _ | refine List.IsSuffix.trans ?_ (List.suffix_cons _ _))))); rw [Hq.out] at H; refine H.mono ?_; clear H; rintro e w9 ⟨rfl, rfl⟩)
                | ((with_reducible (show Go.wpList _ _ _ (Go.Oper.mk _ (.store _ _ _) _ _ _ _ :: _) _ _)); refine wpl_storeW hE8 6 rfl rfl rfl (xs := [.bool false, .slice none 0 0, .slice none 0 0, .slice none 0 0]) rfl rfl Try.sizeOf70 rfl (by simp [Value.oneCell']) rfl ?_; clear hE8; intro w hE9; simp only [List.set_cons_zero, List.set_cons_succ] at hE9))
              refine bodyPost_ret (results_cell2 rfl hE9 6 rfl rfl Try.isAgg70 Try.sizeOf70 rfl rfl) rfl ?_
              exact ⟨_, rfl, takeRes_zero Rr.out (hE9.suf ⟨[_, _, _, _, _, _, _, _], rfl⟩)⟩
            | false =>
              clear hgo'
              cases c1 : (s.err == 0) with
              | false =>
                have c1' : (s.err != 0) = true := by simp only [bne, c1]; rfl
                have Rr := SL.hid (resN_bad hr (b := b) (by rw [Hok.out, c1]; rfl))
                go_wp2_with (first
                  | go_skip
                  | ((with_reducible (show Go.wpList _ _ _ (Go.Oper.mk _ (.load 68 (.tmp 2)) _ _ _ _ :: _) _ _)); refine wpl_loadW hE 6 rfl rfl rfl rfl Try.isAgg68 Try.sizeOf68 (xs := [.int .i64 kw, .int .i64 vw]) rfl ?_)
                  | ((with_reducible (show Go.wpList _ _ _ (Go.Oper.mk _ (.load 70 (.tmp 7)) _ _ _ _ :: _) _ _)); refine wpl_loadW hE 1 rfl rfl rfl rfl Try.isAgg70 Try.sizeOf70 (xs := [.bool false, .slice ka ks.length kc, .slice va vs.length vc, .slice ia kids.length ic]) rfl ?_)
                  | (go_at_call 33; have H := Put_node (kw := kw) (vw := vw) (leaf := false) bk bv bi hE (fun W h => reads_row h 2 rfl) (fun W h => reads_row h 3 rfl) (fun W h => reads_row h 4 rfl); rw [Hpu.out, Hpe.out] at H; refine H.mono ?_; clear H hE; rintro e w8 ⟨v, rfl, pa, pc, rfl, hE8⟩)
                  | (go_at_call 52; have H := Err_any (hE8.front 1 rfl); refine H.mono ?_; clear H; rintro e w9 ⟨rfl, rfl⟩)
                  | (go_at_call 60; have H := Equal_any (reads_row hE8 0 rfl) (hkb _ (hE8.suf (by repeat (first | exact List.suffix_refl _ | refine List.IsSuffix.trans ?_ (List.suffix_cons _ _))))); rw [Hq.out] at H; refine H.mono ?_; clear H; rintro e w9 ⟨rfl, rfl⟩)
                  | ((with_reducible (show Go.wpList _ _ _ (Go.Oper.mk _ (.store _ _ _) _ _ _ _ :: _) _ _)); refine wpl_storeW hE8 6 rfl rfl rfl (xs := [.bool false, .slice none 0 0, .slice none 0 0, .slice none 0 0]) rfl rfl Try.sizeOf70 rfl (by simp [Value.oneCell']) rfl ?_; clear hE8; intro w hE9; simp only [List.set_cons_zero, List.set_cons_succ] at hE9))
                refine bodyPost_ret (results_cell2 rfl hE9 6 rfl rfl Try.isAgg70 Try.sizeOf70 rfl rfl) rfl ?_
                exact ⟨_, rfl, takeRes_zero Rr.out (hE9.suf ⟨[_, _, _, _, _, _, _, _], rfl⟩)⟩
              | true =>
                have c1' : (s.err != 0) = false := by simp only [bne, c1]; rfl
                cases c2 : (pe == 0) with
                | false =>
                  have c2' : (pe != 0) = true := by simp only [bne, c2]; rfl
                  have Rr := SL.hid (resN_bad hr (b := b) (by rw [Hok.out, Hmb.out, c1, c2]; rfl))
                  go_wp2_with (first
                    | go_skip
                    | ((with_reducible (show Go.wpList _ _ _ (Go.Oper.mk _ (.load 68 (.tmp 2)) _ _ _ _ :: _) _ _)); refine wpl_loadW hE 6 rfl rfl rfl rfl Try.isAgg68 Try.sizeOf68 (xs := [.int .i64 kw, .int .i64 vw]) rfl ?_)
                    | ((with_reducible (show Go.wpList _ _ _ (Go.Oper.mk _ (.load 70 (.tmp 7)) _ _ _ _ :: _) _ _)); refine wpl_loadW hE 1 rfl rfl rfl rfl Try.isAgg70 Try.sizeOf70 (xs := [.bool false, .slice ka ks.length kc, .slice va vs.length vc, .slice ia kids.length ic]) rfl ?_)
                    | (go_at_call 33; have H := Put_node (kw := kw) (vw := vw) (leaf := false) bk bv bi hE (fun W h => reads_row h 2 rfl) (fun W h => reads_row h 3 rfl) (fun W h => reads_row h 4 rfl); rw [Hpu.out, Hpe.out] at H; refine H.mono ?_; clear H hE; rintro e w8 ⟨v, rfl, pa, pc, rfl, hE8⟩)
                    | (go_at_call 52; have H := Err_any (hE8.front 1 rfl); refine H.mono ?_; clear H; rintro e w9 ⟨rfl, rfl⟩)
                    | (go_at_call 60; have H := Equal_any (reads_row hE8 0 rfl) (hkb _ (hE8.suf (by repeat (first | exact List.suffix_refl _ | refine List.IsSuffix.trans ?_ (List.suffix_cons _ _))))); rw [Hq.out] at H; refine H.mono ?_; clear H; rintro e w9 ⟨rfl, rfl⟩)
                    | ((with_reducible (show Go.wpList _ _ _ (Go.Oper.mk _ (.store _ _ _) _ _ _ _ :: _) _ _)); refine wpl_storeW hE8 6 rfl rfl rfl (xs := [.bool false, .slice none 0 0, .slice none 0 0, .slice none 0 0]) rfl rfl Try.sizeOf70 rfl (by simp [Value.oneCell']) rfl ?_; clear hE8; intro w hE9; simp only [List.set_cons_zero, List.set_cons_succ] at hE9))
                  refine bodyPost_ret (results_cell2 rfl hE9 6 rfl rfl Try.isAgg70 Try.sizeOf70 rfl rfl) rfl ?_
                  exact ⟨_, rfl, takeRes_zero Rr.out (hE9.suf ⟨[_, _, _, _, _, _, _, _], rfl⟩)⟩
                | true =>
                  have c2' : (pe != 0) = false := by simp only [bne, c2]; rfl
                  cases hq : (pu == b) with
                  | false =>
                    have Hq := SL.hid hq
                    have Rr := SL.hid (resN_bad hr (b := b) (by rw [Hok.out, Hmb.out, c1, c2, Hpg.out c2, hq]; rfl))
                    clear hq
                    go_wp2_with (first
                      | go_skip
                      | ((with_reducible (show Go.wpList _ _ _ (Go.Oper.mk _ (.load 68 (.tmp 2)) _ _ _ _ :: _) _ _)); refine wpl_loadW hE 6 rfl rfl rfl rfl Try.isAgg68 Try.sizeOf68 (xs := [.int .i64 kw, .int .i64 vw]) rfl ?_)
                      | ((with_reducible (show Go.wpList _ _ _ (Go.Oper.mk _ (.load 70 (.tmp 7)) _ _ _ _ :: _) _ _)); refine wpl_loadW hE 1 rfl rfl rfl rfl Try.isAgg70 Try.sizeOf70 (xs := [.bool false, .slice ka ks.length kc, .slice va vs.length vc, .slice ia kids.length ic]) rfl ?_)
                      | (go_at_call 33; have H := Put_node (kw := kw) (vw := vw) (leaf := false) bk bv bi hE (fun W h => reads_row h 2 rfl) (fun W h => reads_row h 3 rfl) (fun W h => reads_row h 4 rfl); rw [Hpu.out, Hpe.out] at H; refine H.mono ?_; clear H hE; rintro e w8 ⟨v, rfl, pa, pc, rfl, hE8⟩)
                      | (go_at_call 52; have H := Err_any (hE8.front 1 rfl); refine H.mono ?_; clear H; rintro e w9 ⟨rfl, rfl⟩)
                      | (go_at_call 60; have H := Equal_any (reads_row hE8 0 rfl) (hkb _ (hE8.suf (by repeat (first | exact List.suffix_refl _ | refine List.IsSuffix.trans ?_ (List.suffix_cons _ _))))); rw [Hq.out] at H; refine H.mono ?_; clear H; rintro e w9 ⟨rfl, rfl⟩)
                      | ((with_reducible (show Go.wpList _ _ _ (Go.Oper.mk _ (.store _ _ _) _ _ _ _ :: _) _ _)); refine wpl_storeW hE8 6 rfl rfl rfl (xs := [.bool false, .slice none 0 0, .slice none 0 0, .slice none 0 0]) rfl rfl Try.sizeOf70 rfl (by simp [Value.oneCell']) rfl ?_; clear hE8; intro w hE9; simp only [List.set_cons_zero, List.set_cons_succ] at hE9))
                    refine bodyPost_ret (results_cell2 rfl hE9 6 rfl rfl Try.isAgg70 Try.sizeOf70 rfl rfl) rfl ?_
                    exact ⟨_, rfl, takeRes_zero Rr.out (hE9.suf ⟨[_, _, _, _, _, _, _, _], rfl⟩)⟩
                  | true =>
                    have Hq := SL.hid hq
                    have Rr := SL.hid (resN_good hr (b := b) (by rw [Hok.out, Hmb.out, c1, c2, Hpg.out c2, hq]; rfl))
                    clear hq
                    go_wp2_with (first
                      | go_skip
                      | ((with_reducible (show Go.wpList _ _ _ (Go.Oper.mk _ (.load 68 (.tmp 2)) _ _ _ _ :: _) _ _)); refine wpl_loadW hE 6 rfl rfl rfl rfl Try.isAgg68 Try.sizeOf68 (xs := [.int .i64 kw, .int .i64 vw]) rfl ?_)
                      | ((with_reducible (show Go.wpList _ _ _ (Go.Oper.mk _ (.load 70 (.tmp 7)) _ _ _ _ :: _) _ _)); refine wpl_loadW hE 1 rfl rfl rfl rfl Try.isAgg70 Try.sizeOf70 (xs := [.bool false, .slice ka ks.length kc, .slice va vs.length vc, .slice ia kids.length ic]) rfl ?_)
                      | (go_at_call 33; have H := Put_node (kw := kw) (vw := vw) (leaf := false) bk bv bi hE (fun W h => reads_row h 2 rfl) (fun W h => reads_row h 3 rfl) (fun W h => reads_row h 4 rfl); rw [Hpu.out, Hpe.out] at H; refine H.mono ?_; clear H hE; rintro e w8 ⟨v, rfl, pa, pc, rfl, hE8⟩)
                      | (go_at_call 52; have H := Err_any (hE8.front 1 rfl); refine H.mono ?_; clear H; rintro e w9 ⟨rfl, rfl⟩)
                      | (go_at_call 60; have H := Equal_any (reads_row hE8 0 rfl) (hkb _ (hE8.suf (by repeat (first | exact List.suffix_refl _ | refine List.IsSuffix.trans ?_ (List.suffix_cons _ _))))); rw [Hq.out] at H; refine H.mono ?_; clear H; rintro e w9 ⟨rfl, rfl⟩)
                      | ((with_reducible (show Go.wpList _ _ _ (Go.Oper.mk _ (.load 70 (.tmp 7)) _ _ _ _ :: _) _ _)); refine wpl_loadW hE8 2 rfl rfl rfl rfl Try.isAgg70 Try.sizeOf70 (xs := [.bool false, .slice ka ks.length kc, .slice va vs.length vc, .slice ia kids.length ic]) rfl ?_)
                      | ((with_reducible (show Go.wpList _ _ _ (Go.Oper.mk _ (.store _ _ _) _ _ _ _ :: _) _ _)); refine wpl_storeW hE8 6 rfl rfl rfl (xs := [.bool false, .slice ka ks.length kc, .slice va vs.length vc, .slice ia kids.length ic]) rfl rfl Try.sizeOf70 rfl (by simp [Value.oneCell']) rfl ?_; clear hE8; intro w hE9; simp only [List.set_cons_zero, List.set_cons_succ] at hE9))
                    refine bodyPost_ret (results_cell2 rfl hE9 6 rfl rfl Try.isAgg70 Try.sizeOf70 rfl rfl) rfl ?_
                    refine ⟨_, rfl, ka, kc, va, vc, ia, ic, ?_, ?_⟩
                    · rw [Rr.out.1, Rr.out.2, Hnode.out]; rfl
                    · rw [Rr.out.1, Hnode.out]
                      exact ((hE9.erase 7).erase 6).suf ⟨[_, _, _], rfl⟩

theorem Take_node {kw vw : Int} {b : List UInt8} (hb : b.length ≤ 100000) {ab : Option Addr} {cb : Nat} {l : List HProp} {w : World} (hE : Ent l w) (hkb : Knows l (reads (.slice ab b.length cb) b.length (bvals b))) :
    Calls Try.prog 39 #[.agg #[.int .i64 kw, .int .i64 vw], .slice ab b.length cb] w (Ret (takeRes kw vw b l)) := by
  cases hr : rightN kw vw with
  | false => exact take_not_right hr hE
  | true =>
    cases hlf : leafR b with
    | true => exact take_true hb hr hlf hE hkb
    | false => exact take_false hb hr hlf hE hkb
end Go.Proofs.Ytohdljcpaogokaa
