/-
  The chunk of bytes that are no blob's, as the program takes it.
-/
import Derived.Test.YtohdljcpaogokaaCkc
namespace Go.Proofs.Ytohdljcpaogokaa
open Go.RowKit Go.SL

theorem one_s (b : ByteArray) : ∀ u ∈ (Value.string b).cells.toList, u.oneCell' = true := by simp [Value.cells, Value.oneCell']
theorem one_b (b : Bool) : ∀ u ∈ (Value.bool b).cells.toList, u.oneCell' = true := by simp [Value.cells, Value.oneCell']
theorem one_i (k : IntKind) (n : Int) : ∀ u ∈ (Value.int k n).cells.toList, u.oneCell' = true := by simp [Value.cells, Value.oneCell']

set_option maxRecDepth 100000 in
set_option maxHeartbeats 4000000 in
theorem take_2 {bs : List UInt8} (hb : bs.length ≤ 1000000) (h1 : ((tkV 1 ⟨bs, 0⟩ : Int) == 1) = false) {ai : Option Addr} {ci : Nat} {l : List HProp} {w : World} (hE : Ent l w) (hk : Knows l (reads (.slice ai bs.length ci) bs.length (bvals bs))) :
    Calls Try.prog 18 #[.slice ai bs.length ci] w (Ret fun v w' => ∃ ao c, v = .tuple #[.agg #[.int .u8 (resC bs).kind.toNat, .string ⟨(resC bs).data.toArray⟩, .slice ao (resC bs).kids.length c], .int .i64 (errC bs)] ∧ Ent (rowK ao c (resC bs).kids :: l) w') := by
  obtain ⟨u, hu⟩ : ∃ u : UInt8, u = UInt8.ofNat (tkV 1 ⟨bs, 0⟩) := ⟨_, rfl⟩
  have hn0 : tkV 1 ⟨bs, 0⟩ = u.toNat := by
    have := tkV1_lt ⟨bs, 0⟩
    rw [hu]; simp; omega
  rw [hn0] at h1
  have hu1 : (u == 1) = false := u_not (n := 1) (by omega) h1
  have hl1 : (tk 1 ⟨bs, 0⟩).bs.length ≤ bs.length := tk_len _ _
  have hp : pchunk bs = (⟨u, [], (pkids (u == 3) (tkV 1 (tk 1 ⟨bs, 0⟩)) (tk 1 (tk 1 ⟨bs, 0⟩))).1⟩, (pkids (u == 3) (tkV 1 (tk 1 ⟨bs, 0⟩)) (tk 1 (tk 1 ⟨bs, 0⟩))).2) := by
    unfold pchunk
    simp only [← hu, hu1, Bool.false_eq_true, if_false]
  have hT1 : ∀ {l : List HProp} {w : World} {o : Nat}, Ent (opener o bs 0 :: l) w → Calls Try.prog 55 #[.pointer (some ⟨o, 0, none⟩), .int .i64 1] w (Ret fun v w' => v = .int .u64 u.toNat ∧ Ent (opener o (tk 1 ⟨bs, 0⟩).bs (tk 1 ⟨bs, 0⟩).err :: l) w') := fun h => by
    have H := sTake (s := ⟨bs, 0⟩) h (by show bs.length ≤ _; omega) 1
    rw [hn0] at H
    exact H
  generalize tk 1 ⟨bs, 0⟩ = s1 at hp hl1 hT1
  have hl2 : (tk 1 s1).bs.length ≤ s1.bs.length := tk_len _ _
  have hnn : tkV 1 s1 < 256 := tkV1_lt s1
  have hT2 : ∀ {l : List HProp} {w : World} {o : Nat}, Ent (opener o s1.bs s1.err :: l) w → Calls Try.prog 55 #[.pointer (some ⟨o, 0, none⟩), .int .i64 1] w (Ret fun v w' => v = .int .u64 (tkV 1 s1) ∧ Ent (opener o (tk 1 s1).bs (tk 1 s1).err :: l) w') := fun h => sTake h (by omega) 1
  generalize tk 1 s1 = s2 at hp hl2 hT2
  generalize tkV 1 s1 = n at hp hnn hT2
  have hcv : IntKind.u8.wrap (u.toNat : Int) = u.toNat := by
    have := u.toNat_lt
    simp only [IntKind.wrap, IntKind.bits, IntKind.signed]
    simp
    omega
  have hcv2 : (u.toNat : Int) % 256 = u.toNat := by have := u.toNat_lt; omega
  clear hu hn0
  obtain ⟨d, hd⟩ : ∃ d, d = (u == 3) := ⟨_, rfl⟩
  rw [← hd] at hp
  have h3 : ((u.toNat : Int) == 3) = d := by
    rw [hd, Bool.eq_iff_iff]
    simp [← UInt8.toNat_inj]
    omega
  have hp1 : (pchunk bs).1 = ⟨u, [], (pkids d n s2).1⟩ := by rw [hp]
  have hp2 : (pchunk bs).2 = (pkids d n s2).2 := by rw [hp]
  have Hpl := SL.hid (fun k => Nat.le_trans (pkids_len d s2 k) (Nat.le_trans hl2 hl1))
  clear hp hd hu1
  go_enter Try.func18, Try.ntmps18
  go_wp2_with (first
    | go_skip
    | ((with_reducible (show Go.wpList _ _ _ (Go.Oper.mk _ (.alloc _) _ _ _ _ :: _) _ _)); refine wpl_alloc hE rfl rfl (by simp [go_sem]; rfl) ?_; clear hE; intro b2 w hE1; simp only [Act.eval, Act.put, List.setIfInBounds_toArray, List.set_cons_zero, List.set_cons_succ, getD_lit, List.getD_cons_succ, List.getD_cons_zero, Value.cells] at hE1)
    | (go_at_call 47; have H := Of_any hE1 hk.cons (by omega); refine H.mono ?_; clear H hE1; rintro e w2 ⟨v, rfl, o, rfl, hE2⟩)
    | (go_at_call 55; have H := hT1 hE2; refine H.mono ?_; clear H hE2; rintro e w2 ⟨v, rfl, rfl, hE3⟩)
    | ((with_reducible (show Go.wpList _ _ _ (Go.Oper.mk _ (.alloc _) _ _ _ _ :: _) _ _)); refine wpl_alloc hE3 rfl rfl (by simp [go_sem]; rfl) ?_; clear hE3; intro b5 w hE4; simp only [Act.eval, Act.put, List.setIfInBounds_toArray, List.set_cons_zero, List.set_cons_succ, getD_lit, List.getD_cons_succ, List.getD_cons_zero, Value.cells] at hE4)
    | (refine wpl_storeW hE4 0 rfl rfl rfl (xs := [.int .u8 u.toNat, .string ⟨#[]⟩, .slice none 0 0]) rfl rfl Try.sizeOf39 rfl (by simp [Value.oneCell']) rfl ?_; clear hE4; intro w hE5; simp only [List.set_cons_zero, List.set_cons_succ] at hE5)
    | ((with_reducible (show Go.wpList _ _ _ (Go.Oper.mk _ (.load 5 _) _ _ _ _ :: _) _ _)); refine wpl_load1 hE5 0 rfl rfl rfl rfl (by simp [go_sem]) rfl ?_)
    | (go_at_call 55; have H := hT2 (hE5.front 1 rfl); refine H.mono ?_; clear H hE5; rintro e w2 ⟨v, rfl, rfl, hE6⟩; simp only [List.eraseIdx_cons_succ, List.eraseIdx_cons_zero] at hE6))
  go_loopw [25] (fun i wr => CTakeRel d s2 n o b5 u.toNat (pt b2 (.cells #[.int .u8 0, .string ⟨#[]⟩, .slice none 0 0] 39) :: l) i wr) (fun i _ => n - (intOf i).toNat)
  case atStart => exact ⟨0, none, 0, Nat.zero_le _, rfl, ((hE6.nil _ _).front 2 rfl).front 2 rfl⟩
  case round =>
    clear hE6
    obtain ⟨k, ao, c, hkl, rfl, hE⟩ := hrel
    by_cases hlt : k < n
    · have hsl := Hpl.out k
      have Hg1 := SL.hid (pkid_good d (pkids d k s2).2)
      have Hgk := SL.hid (pkids_good d s2 k)
      have Hct := SL.hid (pkids_count d s2 k)
      have Hsu1 := SL.hid (pkids_succ1 d k s2)
      have Hsu2 := SL.hid (pkids_succ2 d k s2)
      generalize (pkids d k s2).2 = s at *
      generalize (pkids d k s2).1 = ks at *
      have hklen : ks.length = k := Hct.out
      have hwk : IntKind.u64.wrap ((k : Int) + 1) = (k : Int) + 1 := wrapU_id (by omega)
      cases d with
      | true =>
        obtain ⟨sA, eA⟩ : ∃ y, y = tk 1 s := ⟨_, rfl⟩
        have lA : sA.bs.length ≤ s.bs.length := by rw [eA]; exact tk_len _ _
        obtain ⟨m1, em1⟩ : ∃ y, y = tkV 1 s := ⟨_, rfl⟩
        have hA1 : ∀ {l : List HProp} {w : World} {o : Nat}, Ent (opener o s.bs s.err :: l) w → Calls Try.prog 55 #[.pointer (some ⟨o, 0, none⟩), .int .i64 1] w (Ret fun v w' => v = .int .u64 m1 ∧ Ent (opener o sA.bs sA.err :: l) w') := fun h => by subst eA em1; exact sTake h (by omega) 1
        obtain ⟨sB, eB⟩ : ∃ y, y = nm sA := ⟨_, rfl⟩
        have lB : sB.bs.length ≤ sA.bs.length := by rw [eB]; exact nm_len _
        obtain ⟨nmx, enm⟩ : ∃ y, y = nmV sA := ⟨_, rfl⟩
        have hA2 : ∀ {l : List HProp} {w : World} {o : Nat}, Ent (opener o sA.bs sA.err :: l) w → Calls Try.prog 57 #[.pointer (some ⟨o, 0, none⟩)] w (Ret fun v w' => v = .string ⟨nmx.toArray⟩ ∧ Ent (opener o sB.bs sB.err :: l) w') := fun h => by subst eB enm; exact sName h (by omega)
        obtain ⟨db, edb⟩ : ∃ y, y = (m1 == 1) := ⟨_, rfl⟩
        have hdb : ((m1 : Int) == 1) = db := by
          rw [edb, Bool.eq_iff_iff]
          simp
          omega
        obtain ⟨sC, eC⟩ : ∃ y, y = tx 32 sB := ⟨_, rfl⟩
        have lC : sC.bs.length ≤ sB.bs.length := by rw [eC]; exact tx_len _ _
        obtain ⟨hs, ehs⟩ : ∃ y, y = hxV sB := ⟨_, rfl⟩
        have Hh := SL.hid (show hs.length = 32 by rw [ehs]; exact hxV_len _)
        have hA3 : ∀ {l : List HProp} {w : World} {o : Nat}, Ent (opener o sB.bs sB.err :: l) w → Calls Try.prog 58 #[.pointer (some ⟨o, 0, none⟩)] w (Ret fun v w' => v = .agg (bvals hs).toArray ∧ Ent (opener o sC.bs sC.err :: l) w') := fun h => by subst eC ehs; exact sHash h
        obtain ⟨sD, eD⟩ : ∃ y, y = tk 1 sC := ⟨_, rfl⟩
        have lD : sD.bs.length ≤ sC.bs.length := by rw [eD]; exact tk_len _ _
        obtain ⟨g, eg⟩ : ∃ y, y = UInt8.ofNat (tkV 1 sC) := ⟨_, rfl⟩
        have egn : tkV 1 sC = g.toNat := by
          have := tkV1_lt sC
          rw [eg]; simp; omega
        have hA4 : ∀ {l : List HProp} {w : World} {o : Nat}, Ent (opener o sC.bs sC.err :: l) w → Calls Try.prog 55 #[.pointer (some ⟨o, 0, none⟩), .int .i64 1] w (Ret fun v w' => v = .int .u64 g.toNat ∧ Ent (opener o sD.bs sD.err :: l) w') := fun h => by subst eD; rw [← egn]; exact sTake h (by omega) 1
        obtain ⟨sE, eE⟩ : ∃ y, y = tk 4 sD := ⟨_, rfl⟩
        obtain ⟨z, ez⟩ : ∃ y, y = tkV 4 sD := ⟨_, rfl⟩
        have hA5 : ∀ {l : List HProp} {w : World} {o : Nat}, Ent (opener o sD.bs sD.err :: l) w → Calls Try.prog 55 #[.pointer (some ⟨o, 0, none⟩), .int .i64 4] w (Ret fun v w' => v = .int .u64 z ∧ Ent (opener o sE.bs sE.err :: l) w') := fun h => by subst eE ez; exact sTake h (by omega) 4
        obtain ⟨zz, ezz⟩ : ∃ y, y = z % 4294967296 := ⟨_, rfl⟩
        have hz1 : IntKind.u32.wrap (z : Int) = (zz : Int) := by
          rw [ezz]
          simp only [IntKind.wrap, IntKind.bits, IntKind.signed]
          simp
        have hz2 : (z : Int) % 4294967296 = (zz : Int) := by rw [ezz]; simp
        have hg1 : IntKind.u8.wrap (g.toNat : Int) = g.toNat := by
          have := g.toNat_lt
          simp only [IntKind.wrap, IntKind.bits, IntKind.signed]
          simp
          omega
        have hg2 : (g.toNat : Int) % 256 = g.toNat := by have := g.toNat_lt; omega
        have Hx := SL.hid (show pkid true s = (⟨nmx, db, hs, g, zz⟩, sE) by
          unfold pkid
          simp only [Bool.false_eq_true, if_true, if_false, Bool.true_and, Bool.false_and]
          rw [← eA, ← enm, ← eB, ← em1, ← edb, ← ehs, ← eC, ← eg, ← eD, ← ez, ← eE, ← ezz])
        have hgood : (⟨nmx, db, hs, g, zz⟩ : Kid).good := ⟨Hh.out, by show zz < _; rw [ezz]; exact Nat.mod_lt _ (by omega)⟩
        have HX36 := SL.hid (kcells_len hgood)
        have HXone := SL.hid (kcells_one ⟨nmx, db, hs, g, zz⟩)
        clear eA em1 eB enm edb eC ehs eD eg egn eE ez ezz hgood
        go_wp2_with (first
          | go_skip
          | ((with_reducible (show Go.wpList _ _ _ (Go.Oper.mk _ (.alloc _) _ _ _ _ :: _) _ _)); refine wpl_allocN hE rfl rfl (n := 36) (by kernel_rfl) ?_; clear hE; intro b6 cs w1 hq hE1)
          | ((with_reducible (show Go.wpList _ _ _ (Go.Oper.mk _ (.store 59 _ _) _ _ _ _ :: _) _ _)); refine wpl_storeN hE1 0 rfl rfl rfl (xs := kcells kz) rfl rfl Try.sizeOf59 rfl (kcells_one kz) hq ?_; clear hE1; intro w1 hE2; simp only [List.set_cons_zero] at hE2)
          | ((with_reducible (show Go.wpList _ _ _ (Go.Oper.mk _ (.load 5 _) _ _ _ _ :: _) _ _)); refine wpl_load1 hE2 2 rfl rfl rfl rfl (by simp [go_sem]) rfl ?_)
          | (go_at_call 55; have H := hA1 (hE2.front 1 rfl); refine H.mono ?_; clear H hE2; rintro e w2 ⟨v, rfl, rfl, hE3⟩; simp only [List.eraseIdx_cons_succ, List.eraseIdx_cons_zero, List.set_cons_zero, List.set_cons_succ] at hE3)
          | ((with_reducible (show Go.wpList _ _ _ (Go.Oper.mk _ (.store 4 _ _) _ _ _ _ :: _) _ _)); refine wpl_storeK hE3 1 (n := 1) rfl rfl rfl rfl rfl (by first | (simp [go_sem]; done) | (simp [go_sem]; rfl)) rfl (one_b db) (by rw [kcells_len ⟨rfl, by show 0 < _; omega⟩]; omega) (kset1 kz db) ?_; clear hE3; intro w1 hE4; simp only [List.eraseIdx_cons_succ, List.eraseIdx_cons_zero, List.set_cons_zero, List.set_cons_succ] at hE4)
          | (go_at_call 57; have H := hA2 hE4; refine H.mono ?_; clear H hE4; rintro e w2 ⟨v, rfl, rfl, hE5⟩)
          | ((with_reducible (show Go.wpList _ _ _ (Go.Oper.mk _ (.store 9 _ _) _ _ _ _ :: _) _ _)); refine wpl_storeK hE5 1 (n := 1) rfl rfl rfl rfl rfl (by first | (simp [go_sem]; done) | (simp [go_sem]; rfl)) rfl (one_s _) (by rw [kcells_len ⟨rfl, by show 0 < _; omega⟩]; omega) (kset0 { kz with dir := db } nmx) ?_; clear hE5; intro w1 hE6; simp only [List.eraseIdx_cons_succ, List.eraseIdx_cons_zero, List.set_cons_zero, List.set_cons_succ] at hE6)
          | (go_at_call 58; have H := hA3 hE6; refine H.mono ?_; clear H hE6; rintro e w2 ⟨v, rfl, rfl, hE7⟩)
          | (go_at_call 55; have H := hA4 hE7; refine H.mono ?_; clear H hE7; rintro e w2 ⟨v, rfl, rfl, hE8⟩)
          | (go_at_call 55; have H := hA5 hE8; refine H.mono ?_; clear H hE8; rintro e w2 ⟨v, rfl, rfl, hE9⟩)
          | ((with_reducible (show Go.wpList _ _ _ (Go.Oper.mk _ (.store 56 _ _) _ _ _ _ :: _) _ _)); refine wpl_storeK hE9 1 rfl rfl rfl rfl rfl Try.sizeOf56 (by show (bvals hs).length = 32; rw [bvals_length]; exact Hh.out) (bvals_one hs) (by rw [kcells_len ⟨rfl, by show 0 < _; omega⟩]; omega) (kset2 (k := ⟨nmx, db, hz, 0, 0⟩) rfl Hh.out) ?_; clear hE9; intro w1 hE10; simp only [List.eraseIdx_cons_succ, List.eraseIdx_cons_zero, List.set_cons_zero, List.set_cons_succ] at hE10)
          | ((with_reducible (show Go.wpList _ _ _ (Go.Oper.mk _ (.store 5 _ _) _ _ _ _ :: _) _ _)); refine wpl_storeK hE10 1 (n := 1) rfl rfl rfl rfl rfl (by first | (simp [go_sem]; done) | (simp [go_sem]; rfl)) rfl (one_i _ _) (by rw [kcells_len ⟨Hh.out, by show 0 < _; omega⟩]; omega) (kset34 (k := ⟨nmx, db, hs, 0, 0⟩) Hh.out g) ?_; clear hE10; intro w1 hE11; simp only [List.eraseIdx_cons_succ, List.eraseIdx_cons_zero, List.set_cons_zero, List.set_cons_succ] at hE11)
          | ((with_reducible (show Go.wpList _ _ _ (Go.Oper.mk _ (.store 57 _ _) _ _ _ _ :: _) _ _)); refine wpl_storeK hE11 1 (n := 1) rfl rfl rfl rfl rfl (by first | (simp [go_sem]; done) | (simp [go_sem]; rfl)) rfl (one_i _ _) (by rw [kcells_len ⟨Hh.out, by show 0 < _; omega⟩]; omega) (kset35 (k := ⟨nmx, db, hs, g, 0⟩) Hh.out zz) ?_; clear hE11; intro w1 hE12; simp only [List.eraseIdx_cons_succ, List.eraseIdx_cons_zero, List.set_cons_zero, List.set_cons_succ] at hE12)
          | ((with_reducible (show Go.wpList _ _ _ (Go.Oper.mk _ (.load 37 _) _ _ _ _ :: _) _ _)); refine wpl_load1 hE12 2 rfl rfl rfl rfl (by simp [go_sem]) rfl ?_)
          | ((with_reducible (show Go.wpList _ _ _ (Go.Oper.mk _ (.load 59 _) _ _ _ _ :: _) _ _)); refine wpl_loadW hE12 1 rfl rfl rfl rfl Try.isAgg59 Try.sizeOf59 HX36.out ?_)
          | ((with_reducible (show Go.wpList _ _ _ (Go.Oper.mk _ (.buildSlice _ _ _) _ _ _ _ :: _) _ _)); refine wpl_build1 hE12 rfl rfl (xs := kcells ⟨nmx, db, hs, g, zz⟩) rfl Try.underlying37 (size := 36) (by kernel_rfl) Try.sizeOf59 (by decide) (by decide) HX36.out ?_; clear hE12; intro bs1 w1 hE13)
          | (at_builtin; refine wpl_appendG hE13 4 rfl rfl rfl rfl rfl Try.underlying37 info_kid (by decide) (m := 1) (news := kcells ⟨nmx, db, hs, g, zz⟩) (reads_pt hE13 0 rfl (fun j u hu => by rw [Nat.zero_add, List.getElem?_toArray]; exact hu)) HX36.out HXone.out (by omega) (by omega) ?_; clear hE13; intro ao2 c2 w1 hE14; simp only [List.eraseIdx_cons_succ, List.eraseIdx_cons_zero, List.set_cons_zero, List.set_cons_succ] at hE14)
          | ((with_reducible (show Go.wpList _ _ _ (Go.Oper.mk _ (.store 37 _ _) _ _ _ _ :: _) _ _)); refine wpl_store hE14 3 rfl rfl rfl rfl rfl (by simp [go_sem]; rfl) (by rfl) (by simp [Value.cells, Value.oneCell', Act.eval]) (by simp) ?_; clear hE14; intro w hE15; simp only [Act.eval, getD_lit, List.getD_cons_succ, List.getD_cons_zero, Value.cells, List.set_cons_zero, List.set_cons_succ, List.take_succ_cons, List.take_zero, List.nil_append, List.cons_append, List.drop_succ_cons, List.drop_zero, List.length_cons, List.length_nil, Nat.reduceAdd, Nat.zero_add] at hE15))
        go_roundw
        case rel =>
          refine ⟨k + 1, ao2, c2, hlt, by simp, ?_⟩
          have hF := (hE15.erase 0).erase 1
          have hkc : kidCells (ks ++ [⟨nmx, db, hs, g, zz⟩]) = kidCells ks ++ kcells ⟨nmx, db, hs, g, zz⟩ := by simp [kidCells]
          rw [Hsu2.out, Hsu1.out, Hx.out]
          simp only [rowK, hkc, List.length_append, List.length_cons, List.length_nil, Nat.zero_add]
          simp only [hklen] at hF ⊢
          exact hF
        case measure => simp [intOf]; omega
      | false =>
        obtain ⟨sC, eC⟩ : ∃ y, y = tx 32 s := ⟨_, rfl⟩
        have lC : sC.bs.length ≤ s.bs.length := by rw [eC]; exact tx_len _ _
        obtain ⟨hs, ehs⟩ : ∃ y, y = hxV s := ⟨_, rfl⟩
        have Hh := SL.hid (show hs.length = 32 by rw [ehs]; exact hxV_len _)
        have hA3 : ∀ {l : List HProp} {w : World} {o : Nat}, Ent (opener o s.bs s.err :: l) w → Calls Try.prog 58 #[.pointer (some ⟨o, 0, none⟩)] w (Ret fun v w' => v = .agg (bvals hs).toArray ∧ Ent (opener o sC.bs sC.err :: l) w') := fun h => by subst eC ehs; exact sHash h
        obtain ⟨sD, eD⟩ : ∃ y, y = tk 1 sC := ⟨_, rfl⟩
        have lD : sD.bs.length ≤ sC.bs.length := by rw [eD]; exact tk_len _ _
        obtain ⟨g, eg⟩ : ∃ y, y = UInt8.ofNat (tkV 1 sC) := ⟨_, rfl⟩
        have egn : tkV 1 sC = g.toNat := by
          have := tkV1_lt sC
          rw [eg]; simp; omega
        have hA4 : ∀ {l : List HProp} {w : World} {o : Nat}, Ent (opener o sC.bs sC.err :: l) w → Calls Try.prog 55 #[.pointer (some ⟨o, 0, none⟩), .int .i64 1] w (Ret fun v w' => v = .int .u64 g.toNat ∧ Ent (opener o sD.bs sD.err :: l) w') := fun h => by subst eD; rw [← egn]; exact sTake h (by omega) 1
        obtain ⟨sE, eE⟩ : ∃ y, y = tk 4 sD := ⟨_, rfl⟩
        obtain ⟨z, ez⟩ : ∃ y, y = tkV 4 sD := ⟨_, rfl⟩
        have hA5 : ∀ {l : List HProp} {w : World} {o : Nat}, Ent (opener o sD.bs sD.err :: l) w → Calls Try.prog 55 #[.pointer (some ⟨o, 0, none⟩), .int .i64 4] w (Ret fun v w' => v = .int .u64 z ∧ Ent (opener o sE.bs sE.err :: l) w') := fun h => by subst eE ez; exact sTake h (by omega) 4
        obtain ⟨zz, ezz⟩ : ∃ y, y = z % 4294967296 := ⟨_, rfl⟩
        have hz1 : IntKind.u32.wrap (z : Int) = (zz : Int) := by
          rw [ezz]
          simp only [IntKind.wrap, IntKind.bits, IntKind.signed]
          simp
        have hz2 : (z : Int) % 4294967296 = (zz : Int) := by rw [ezz]; simp
        have hg1 : IntKind.u8.wrap (g.toNat : Int) = g.toNat := by
          have := g.toNat_lt
          simp only [IntKind.wrap, IntKind.bits, IntKind.signed]
          simp
          omega
        have hg2 : (g.toNat : Int) % 256 = g.toNat := by have := g.toNat_lt; omega
        have Hx := SL.hid (show pkid false s = (⟨[], false, hs, g, zz⟩, sE) by
          unfold pkid
          simp only [Bool.false_eq_true, if_true, if_false, Bool.true_and, Bool.false_and]
          rw [← ehs, ← eC, ← eg, ← eD, ← ez, ← eE, ← ezz])
        have hgood : (⟨[], false, hs, g, zz⟩ : Kid).good := ⟨Hh.out, by show zz < _; rw [ezz]; exact Nat.mod_lt _ (by omega)⟩
        have HX36 := SL.hid (kcells_len hgood)
        have HXone := SL.hid (kcells_one ⟨[], false, hs, g, zz⟩)
        clear eC ehs eD eg egn eE ez ezz hgood
        go_wp2_with (first
          | go_skip
          | ((with_reducible (show Go.wpList _ _ _ (Go.Oper.mk _ (.alloc _) _ _ _ _ :: _) _ _)); refine wpl_allocN hE rfl rfl (n := 36) (by kernel_rfl) ?_; clear hE; intro b6 cs w1 hq hE1)
          | ((with_reducible (show Go.wpList _ _ _ (Go.Oper.mk _ (.store 59 _ _) _ _ _ _ :: _) _ _)); refine wpl_storeN hE1 0 rfl rfl rfl (xs := kcells kz) rfl rfl Try.sizeOf59 rfl (kcells_one kz) hq ?_; clear hE1; intro w1 hE2; simp only [List.set_cons_zero] at hE2)
          | ((with_reducible (show Go.wpList _ _ _ (Go.Oper.mk _ (.load 5 _) _ _ _ _ :: _) _ _)); refine wpl_load1 hE2 2 rfl rfl rfl rfl (by simp [go_sem]) rfl ?_)
          | (go_at_call 58; have H := hA3 (hE2.front 1 rfl); refine H.mono ?_; clear H hE2; rintro e w2 ⟨v, rfl, rfl, hE7⟩; simp only [List.eraseIdx_cons_succ, List.eraseIdx_cons_zero, List.set_cons_zero, List.set_cons_succ] at hE7)
          | (go_at_call 55; have H := hA4 hE7; refine H.mono ?_; clear H hE7; rintro e w2 ⟨v, rfl, rfl, hE8⟩)
          | (go_at_call 55; have H := hA5 hE8; refine H.mono ?_; clear H hE8; rintro e w2 ⟨v, rfl, rfl, hE9⟩)
          | ((with_reducible (show Go.wpList _ _ _ (Go.Oper.mk _ (.store 56 _ _) _ _ _ _ :: _) _ _)); refine wpl_storeK hE9 1 rfl rfl rfl rfl rfl Try.sizeOf56 (by show (bvals hs).length = 32; rw [bvals_length]; exact Hh.out) (bvals_one hs) (by rw [kcells_len ⟨rfl, by show 0 < _; omega⟩]; omega) (kset2 (k := ⟨[], false, hz, 0, 0⟩) rfl Hh.out) ?_; clear hE9; intro w1 hE10; simp only [List.eraseIdx_cons_succ, List.eraseIdx_cons_zero, List.set_cons_zero, List.set_cons_succ] at hE10)
          | ((with_reducible (show Go.wpList _ _ _ (Go.Oper.mk _ (.store 5 _ _) _ _ _ _ :: _) _ _)); refine wpl_storeK hE10 1 (n := 1) rfl rfl rfl rfl rfl (by first | (simp [go_sem]; done) | (simp [go_sem]; rfl)) rfl (one_i _ _) (by rw [kcells_len ⟨Hh.out, by show 0 < _; omega⟩]; omega) (kset34 (k := ⟨[], false, hs, 0, 0⟩) Hh.out g) ?_; clear hE10; intro w1 hE11; simp only [List.eraseIdx_cons_succ, List.eraseIdx_cons_zero, List.set_cons_zero, List.set_cons_succ] at hE11)
          | ((with_reducible (show Go.wpList _ _ _ (Go.Oper.mk _ (.store 57 _ _) _ _ _ _ :: _) _ _)); refine wpl_storeK hE11 1 (n := 1) rfl rfl rfl rfl rfl (by first | (simp [go_sem]; done) | (simp [go_sem]; rfl)) rfl (one_i _ _) (by rw [kcells_len ⟨Hh.out, by show 0 < _; omega⟩]; omega) (kset35 (k := ⟨[], false, hs, g, 0⟩) Hh.out zz) ?_; clear hE11; intro w1 hE12; simp only [List.eraseIdx_cons_succ, List.eraseIdx_cons_zero, List.set_cons_zero, List.set_cons_succ] at hE12)
          | ((with_reducible (show Go.wpList _ _ _ (Go.Oper.mk _ (.load 37 _) _ _ _ _ :: _) _ _)); refine wpl_load1 hE12 2 rfl rfl rfl rfl (by simp [go_sem]) rfl ?_)
          | ((with_reducible (show Go.wpList _ _ _ (Go.Oper.mk _ (.load 59 _) _ _ _ _ :: _) _ _)); refine wpl_loadW hE12 1 rfl rfl rfl rfl Try.isAgg59 Try.sizeOf59 HX36.out ?_)
          | ((with_reducible (show Go.wpList _ _ _ (Go.Oper.mk _ (.buildSlice _ _ _) _ _ _ _ :: _) _ _)); refine wpl_build1 hE12 rfl rfl (xs := kcells ⟨[], false, hs, g, zz⟩) rfl Try.underlying37 (size := 36) (by kernel_rfl) Try.sizeOf59 (by decide) (by decide) HX36.out ?_; clear hE12; intro bs1 w1 hE13)
          | (at_builtin; refine wpl_appendG hE13 4 rfl rfl rfl rfl rfl Try.underlying37 info_kid (by decide) (m := 1) (news := kcells ⟨[], false, hs, g, zz⟩) (reads_pt hE13 0 rfl (fun j u hu => by rw [Nat.zero_add, List.getElem?_toArray]; exact hu)) HX36.out HXone.out (by omega) (by omega) ?_; clear hE13; intro ao2 c2 w1 hE14; simp only [List.eraseIdx_cons_succ, List.eraseIdx_cons_zero, List.set_cons_zero, List.set_cons_succ] at hE14)
          | ((with_reducible (show Go.wpList _ _ _ (Go.Oper.mk _ (.store 37 _ _) _ _ _ _ :: _) _ _)); refine wpl_store hE14 3 rfl rfl rfl rfl rfl (by simp [go_sem]; rfl) (by rfl) (by simp [Value.cells, Value.oneCell', Act.eval]) (by simp) ?_; clear hE14; intro w hE15; simp only [Act.eval, getD_lit, List.getD_cons_succ, List.getD_cons_zero, Value.cells, List.set_cons_zero, List.set_cons_succ, List.take_succ_cons, List.take_zero, List.nil_append, List.cons_append, List.drop_succ_cons, List.drop_zero, List.length_cons, List.length_nil, Nat.reduceAdd, Nat.zero_add] at hE15))
        go_roundw
        case rel =>
          refine ⟨k + 1, ao2, c2, hlt, by simp, ?_⟩
          have hF := (hE15.erase 0).erase 1
          have hkc : kidCells (ks ++ [⟨[], false, hs, g, zz⟩]) = kidCells ks ++ kcells ⟨[], false, hs, g, zz⟩ := by simp [kidCells]
          rw [Hsu2.out, Hsu1.out, Hx.out]
          simp only [rowK, hkc, List.length_append, List.length_cons, List.length_nil, Nat.zero_add]
          simp only [hklen] at hF ⊢
          exact hF
        case measure => simp [intOf]; omega
    · obtain rfl : k = n := by omega
      have Hg := SL.hid (pkids_good d s2 k)
      have hct := pkids_count d s2 k
      have hlk : (pkids d k s2).1.length ≤ 1000 := by omega
      clear hct
      generalize (pkids d k s2).2 = s at *
      generalize (pkids d k s2).1 = ks at *
      cases hm : mayC (pchunk bs).1 with
      | false =>
        obtain ⟨r1, r2⟩ := takeC_bad (bs := bs) (by rw [hm]; rfl)
        have R1 := SL.hid r1
        have R2 := SL.hid r2
        clear r1 r2
        cases he : (endE (pchunk bs).2.bs (pchunk bs).2.err == 0) with
        | true =>
          rw [hp2] at he
          have P1 := SL.hid hp1
          have Hm := SL.hid (show mayC ⟨u, [], ks⟩ = false by rw [← hp1]; exact hm)
          have Hgk := SL.hid Hg.out
          have Hlk := SL.hid hlk
          have He := SL.hid (show endE s.bs s.err = 0 by simpa using he)
          clear hm hp1 hp2
          go_wp2_with (first
            | go_skip
            | ((with_reducible (show Go.wpList _ _ _ (Go.Oper.mk _ (.load 39 _) _ _ _ _ :: _) _ _)); refine wpl_loadW hE 1 rfl rfl rfl rfl Try.isAgg39 Try.sizeOf39 (xs := [.int .u8 u.toNat, .string ⟨#[]⟩, .slice ao ks.length c]) rfl ?_)
            | (go_at_call 23; have H := cPut_no (u := u) (data := ([] : List UInt8)) (ks := ks) Hgk.out (by have := Hlk.out; omega) Hm.out hE (fun W hW => reads_row hW 2 rfl); refine H.mono ?_; clear H hE; rintro e w6 ⟨v, rfl, rfl, hE6⟩)
            | (go_at_call 59; have H := End_any (hE6.front 0 rfl); rw [He.out] at H; refine H.mono ?_; clear H; rintro e w7 ⟨rfl, rfl⟩)
            | (refine wpl_storeW hE6 3 rfl rfl rfl (xs := [.int .u8 0, .string ⟨#[]⟩, .slice none 0 0]) rfl rfl Try.sizeOf39 rfl (by simp [Value.oneCell']) rfl ?_; clear hE6; intro w hE7; simp only [List.set_cons_zero, List.set_cons_succ] at hE7))
          refine bodyPost_ret (results_cell2 rfl hE7 3 rfl rfl Try.isAgg39 Try.sizeOf39 rfl rfl) rfl ?_
          exact ⟨_, rfl, none, 0, by rw [R1.out, R2.out]; rfl, by rw [R1.out]; exact (hE7.tail.tail.tail.tail).nil _ _⟩
        | false =>
          rw [hp2] at he
          have P1 := SL.hid hp1
          have Hm := SL.hid (show mayC ⟨u, [], ks⟩ = false by rw [← hp1]; exact hm)
          have Hgk := SL.hid Hg.out
          have Hlk := SL.hid hlk
          generalize hee : endE s.bs s.err = ee at he
          have he' : (ee != 0) = true := by simp only [bne, he]; rfl
          have He := SL.hid hee
          clear hee
          clear hm hp1 hp2
          go_wp2_with (first
            | go_skip
            | ((with_reducible (show Go.wpList _ _ _ (Go.Oper.mk _ (.load 39 _) _ _ _ _ :: _) _ _)); refine wpl_loadW hE 1 rfl rfl rfl rfl Try.isAgg39 Try.sizeOf39 (xs := [.int .u8 u.toNat, .string ⟨#[]⟩, .slice ao ks.length c]) rfl ?_)
            | (go_at_call 23; have H := cPut_no (u := u) (data := ([] : List UInt8)) (ks := ks) Hgk.out (by have := Hlk.out; omega) Hm.out hE (fun W hW => reads_row hW 2 rfl); refine H.mono ?_; clear H hE; rintro e w6 ⟨v, rfl, rfl, hE6⟩)
            | (go_at_call 59; have H := End_any (hE6.front 0 rfl); rw [He.out] at H; refine H.mono ?_; clear H; rintro e w7 ⟨rfl, rfl⟩)
            | (refine wpl_storeW hE6 3 rfl rfl rfl (xs := [.int .u8 0, .string ⟨#[]⟩, .slice none 0 0]) rfl rfl Try.sizeOf39 rfl (by simp [Value.oneCell']) rfl ?_; clear hE6; intro w hE7; simp only [List.set_cons_zero, List.set_cons_succ] at hE7))
          refine bodyPost_ret (results_cell2 rfl hE7 3 rfl rfl Try.isAgg39 Try.sizeOf39 rfl rfl) rfl ?_
          exact ⟨_, rfl, none, 0, by rw [R1.out, R2.out]; rfl, by rw [R1.out]; exact (hE7.tail.tail.tail.tail).nil _ _⟩
      | true =>
        cases hq : (putC (pchunk bs).1 == bs) with
        | false =>
          obtain ⟨r1, r2⟩ := takeC_bad (bs := bs) (by rw [hm, hq]; rfl)
          have R1 := SL.hid r1
          have R2 := SL.hid r2
          clear r1 r2
          cases he : (endE (pchunk bs).2.bs (pchunk bs).2.err == 0) with
          | true =>
            rw [hp2] at he
            have P1 := SL.hid hp1
            have Hm := SL.hid (show mayC ⟨u, [], ks⟩ = true by rw [← hp1]; exact hm)
            have Hgk := SL.hid Hg.out
            have Hlk := SL.hid hlk
            have Hq := SL.hid (show (putC ⟨u, [], ks⟩ == bs) = false by rw [← hp1]; exact hq)
            clear hq
            have He := SL.hid (show endE s.bs s.err = 0 by simpa using he)
            clear hm hp1 hp2
            go_wp2_with (first
              | go_skip
              | ((with_reducible (show Go.wpList _ _ _ (Go.Oper.mk _ (.load 39 _) _ _ _ _ :: _) _ _)); refine wpl_loadW hE 1 rfl rfl rfl rfl Try.isAgg39 Try.sizeOf39 (xs := [.int .u8 u.toNat, .string ⟨#[]⟩, .slice ao ks.length c]) rfl ?_)
              | (go_at_call 23; have H := cPut_yes (u := u) (data := ([] : List UInt8)) (ks := ks) Hgk.out Hm.out hE (fun W hW => reads_row hW 2 rfl); refine H.mono ?_; clear H hE; rintro e w6 ⟨v, rfl, ap, cp, rfl, hE6⟩)
              | (go_at_call 59; have H := End_any (hE6.front 1 rfl); rw [He.out] at H; refine H.mono ?_; clear H; rintro e w7 ⟨rfl, rfl⟩)
              | (go_at_call 60; have H := Equal_any (reads_row hE6 0 rfl) (hk _ hE6.tail.tail.tail.tail.tail); rw [Hq.out] at H; refine H.mono ?_; clear H; rintro e w7 ⟨rfl, rfl⟩)
              | (refine wpl_storeW hE6 4 rfl rfl rfl (xs := [.int .u8 0, .string ⟨#[]⟩, .slice none 0 0]) rfl rfl Try.sizeOf39 rfl (by simp [Value.oneCell']) rfl ?_; clear hE6; intro w hE7; simp only [List.set_cons_zero, List.set_cons_succ] at hE7))
            refine bodyPost_ret (results_cell2 rfl hE7 4 rfl rfl Try.isAgg39 Try.sizeOf39 rfl rfl) rfl ?_
            exact ⟨_, rfl, none, 0, by rw [R1.out, R2.out]; rfl, by rw [R1.out]; exact (hE7.tail.tail.tail.tail.tail).nil _ _⟩
          | false =>
            rw [hp2] at he
            have P1 := SL.hid hp1
            have Hm := SL.hid (show mayC ⟨u, [], ks⟩ = true by rw [← hp1]; exact hm)
            have Hgk := SL.hid Hg.out
            have Hlk := SL.hid hlk
            have Hq := SL.hid (show (putC ⟨u, [], ks⟩ == bs) = false by rw [← hp1]; exact hq)
            clear hq
            generalize hee : endE s.bs s.err = ee at he
            have he' : (ee != 0) = true := by simp only [bne, he]; rfl
            have He := SL.hid hee
            clear hee
            clear hm hp1 hp2
            go_wp2_with (first
              | go_skip
              | ((with_reducible (show Go.wpList _ _ _ (Go.Oper.mk _ (.load 39 _) _ _ _ _ :: _) _ _)); refine wpl_loadW hE 1 rfl rfl rfl rfl Try.isAgg39 Try.sizeOf39 (xs := [.int .u8 u.toNat, .string ⟨#[]⟩, .slice ao ks.length c]) rfl ?_)
              | (go_at_call 23; have H := cPut_yes (u := u) (data := ([] : List UInt8)) (ks := ks) Hgk.out Hm.out hE (fun W hW => reads_row hW 2 rfl); refine H.mono ?_; clear H hE; rintro e w6 ⟨v, rfl, ap, cp, rfl, hE6⟩)
              | (go_at_call 59; have H := End_any (hE6.front 1 rfl); rw [He.out] at H; refine H.mono ?_; clear H; rintro e w7 ⟨rfl, rfl⟩)
              | (refine wpl_storeW hE6 4 rfl rfl rfl (xs := [.int .u8 0, .string ⟨#[]⟩, .slice none 0 0]) rfl rfl Try.sizeOf39 rfl (by simp [Value.oneCell']) rfl ?_; clear hE6; intro w hE7; simp only [List.set_cons_zero, List.set_cons_succ] at hE7))
            refine bodyPost_ret (results_cell2 rfl hE7 4 rfl rfl Try.isAgg39 Try.sizeOf39 rfl rfl) rfl ?_
            exact ⟨_, rfl, none, 0, by rw [R1.out, R2.out]; rfl, by rw [R1.out]; exact (hE7.tail.tail.tail.tail.tail).nil _ _⟩
        | true =>
          obtain ⟨r1, r2, r3⟩ := takeC_good hm hq
          have R1 := SL.hid r1
          have R2 := SL.hid r2
          have he : (endE (pchunk bs).2.bs (pchunk bs).2.err == 0) = true := by rw [r3]; rfl
          clear r1 r2 r3
          rw [hp2] at he
          have P1 := SL.hid hp1
          have Hm := SL.hid (show mayC ⟨u, [], ks⟩ = true by rw [← hp1]; exact hm)
          have Hgk := SL.hid Hg.out
          have Hlk := SL.hid hlk
          have Hq := SL.hid (show (putC ⟨u, [], ks⟩ == bs) = true by rw [← hp1]; exact hq)
          clear hq
          have He := SL.hid (show endE s.bs s.err = 0 by simpa using he)
          clear hm hp1 hp2
          go_wp2_with (first
            | go_skip
            | ((with_reducible (show Go.wpList _ _ _ (Go.Oper.mk _ (.load 39 _) _ _ _ _ :: _) _ _)); refine wpl_loadW hE 1 rfl rfl rfl rfl Try.isAgg39 Try.sizeOf39 (xs := [.int .u8 u.toNat, .string ⟨#[]⟩, .slice ao ks.length c]) rfl ?_)
            | (go_at_call 23; have H := cPut_yes (u := u) (data := ([] : List UInt8)) (ks := ks) Hgk.out Hm.out hE (fun W hW => reads_row hW 2 rfl); refine H.mono ?_; clear H hE; rintro e w6 ⟨v, rfl, ap, cp, rfl, hE6⟩)
            | (go_at_call 59; have H := End_any (hE6.front 1 rfl); rw [He.out] at H; refine H.mono ?_; clear H; rintro e w7 ⟨rfl, rfl⟩)
            | (go_at_call 60; have H := Equal_any (reads_row hE6 0 rfl) (hk _ hE6.tail.tail.tail.tail.tail); rw [Hq.out] at H; refine H.mono ?_; clear H; rintro e w7 ⟨rfl, rfl⟩)
            | ((with_reducible (show Go.wpList _ _ _ (Go.Oper.mk _ (.load 39 _) _ _ _ _ :: _) _ _)); refine wpl_loadW hE6 2 rfl rfl rfl rfl Try.isAgg39 Try.sizeOf39 (xs := [.int .u8 u.toNat, .string ⟨#[]⟩, .slice ao ks.length c]) rfl ?_)
            | (refine wpl_storeW hE6 4 rfl rfl rfl (xs := [.int .u8 u.toNat, .string ⟨#[]⟩, .slice ao ks.length c]) rfl rfl Try.sizeOf39 rfl (by simp [Value.oneCell']) rfl ?_; clear hE6; intro w hE7; simp only [List.set_cons_zero, List.set_cons_succ] at hE7))
          refine bodyPost_ret (results_cell2 rfl hE7 4 rfl rfl Try.isAgg39 Try.sizeOf39 rfl rfl) rfl ?_
          exact ⟨_, rfl, ao, c, by rw [R1.out, R2.out, P1.out]; rfl, by rw [R1.out, P1.out]; exact (hE7.tail.tail.tail).erase 1⟩

theorem cTake_any {bs : List UInt8} (hb : bs.length ≤ 1000000) {ai : Option Addr} {ci : Nat} {l : List HProp} {w : World} (hE : Ent l w) (hk : Knows l (reads (.slice ai bs.length ci) bs.length (bvals bs))) :
    Calls Try.prog 18 #[.slice ai bs.length ci] w (Ret fun v w' => ∃ ao c, v = .tuple #[.agg #[.int .u8 (resC bs).kind.toNat, .string ⟨(resC bs).data.toArray⟩, .slice ao (resC bs).kids.length c], .int .i64 (errC bs)] ∧ Ent (rowK ao c (resC bs).kids :: l) w') := by
  cases h1 : ((tkV 1 ⟨bs, 0⟩ : Int) == 1) with
  | true => exact take_1 hb h1 hE hk
  | false => exact take_2 hb h1 hE hk
end Go.Proofs.Ytohdljcpaogokaa
