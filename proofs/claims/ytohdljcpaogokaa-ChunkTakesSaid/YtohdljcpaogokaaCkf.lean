/-
  The chunk of bytes that are no blob's, as the document takes it.
-/
import Derived.Test.YtohdljcpaogokaaCke
namespace Go.Proofs.Ytohdljcpaogokaa
open Go.RowKit Go.SL

set_option maxRecDepth 100000 in
set_option maxHeartbeats 4000000 in
theorem rTake_two {x : UInt8} {r : List UInt8} (hb : (x :: r).length ≤ 1000000) (h1 : ((x.toNat : Int) == 1) = false) {l : List HProp} {w : World} (hE : Ent l w) :
    Calls Try.prog 19 #[.string ⟨(x :: r).toArray⟩] w (Ret fun v w' => ∃ ao c, v = .tuple #[.agg #[.int .u8 (resC (x :: r)).kind.toNat, .string ⟨(resC (x :: r)).data.toArray⟩, .slice ao (resC (x :: r)).kids.length c], .int .i64 (errC (x :: r))] ∧ Ent (rowRK ao c (resC (x :: r)).kids :: l) w') := by
  have hix : ∀ w, (Instr.index 9 (.string ⟨(x :: r).toArray⟩) (.int .i64 0)).run Try.prog w = .ok (.int .u8 (x.toNat : Int)) w := fun w => run_index_s (P := Try.prog) Try.underlying9 (bs := x :: r) (k := 0) (by simp) w
  have hsl : ∀ w, (Instr.sliceAt 9 (.string ⟨(x :: r).toArray⟩) (some (.int .i64 1)) none none).run Try.prog w = .ok (.string ⟨r.toArray⟩) w := fun w => run_slice_sLo (P := Try.prog) Try.underlying9 (bs := x :: r) (k := 1) (by simp) w
  have h00 : (((x :: r).length : Int) == 0) = false := by simp; omega
  have htk : tk 1 ⟨x :: r, 0⟩ = ⟨r, 0⟩ ∧ tkV 1 ⟨x :: r, 0⟩ = x.toNat := by
    have := tk1_app x.toNat r x.toNat_lt
    rwa [be_one'] at this
  have hrl : r.length ≤ 1000000 := by simp at hb; omega
  have hl2 : (tk 1 ⟨r, 0⟩).bs.length ≤ r.length := tk_len _ _
  have hnn : tkV 1 ⟨r, 0⟩ < 256 := tkV1_lt _
  have hT2 : ∀ {l : List HProp} {w : World}, Ent l w → Calls Try.prog 61 #[.agg (rcs ⟨r, 0⟩).toArray, .int .i64 1] w (Ret fun v w' => v = .tuple #[.int .u64 (tkV 1 ⟨r, 0⟩), .agg (rcs (tk 1 ⟨r, 0⟩)).toArray] ∧ Ent l w') := fun h => rTake_1 (s := ⟨r, 0⟩) h (by show r.length ≤ _; omega)
  have hu1 : (x == 1) = false := u_not (n := 1) (by omega) h1
  have h1' : ((x.toNat : Int) != 1) = true := by simp only [bne, h1]; rfl
  obtain ⟨d, hd⟩ : ∃ d, d = (x == 3) := ⟨_, rfl⟩
  have hp : pchunk (x :: r) = (⟨x, [], (pkids d (tkV 1 ⟨r, 0⟩) (tk 1 ⟨r, 0⟩)).1⟩, (pkids d (tkV 1 ⟨r, 0⟩) (tk 1 ⟨r, 0⟩)).2) := by
    unfold pchunk
    simp only [htk.1, htk.2, show UInt8.ofNat x.toNat = x by simp, hu1, Bool.false_eq_true, if_false, hd]
  generalize tk 1 ⟨r, 0⟩ = s2 at hl2 hT2 hp
  generalize tkV 1 ⟨r, 0⟩ = n at hnn hT2 hp
  have h3 : ((x.toNat : Int) == 3) = d := by
    rw [hd, Bool.eq_iff_iff]
    simp [← UInt8.toNat_inj]
    omega
  have hp1 : (pchunk (x :: r)).1 = ⟨x, [], (pkids d n s2).1⟩ := by rw [hp]
  have Hpl := SL.hid (fun k => Nat.le_trans (pkids_len d s2 k) hl2)
  clear hp hd hu1 htk
  generalize hbs : (x :: r) = bs at *
  clear hbs
  go_enter Try.func19, Try.ntmps19
  go_wp2_with (first
    | go_skip
    | ((with_reducible (show Go.wpList _ _ _ (Go.Oper.mk _ (.alloc 45) _ _ _ _ :: _) _ _)); refine wpl_alloc hE rfl rfl (by simp [go_sem]; rfl) ?_; clear hE; intro b2 w hE1; simp only [Act.eval, Act.put, List.setIfInBounds_toArray, List.set_cons_zero, List.set_cons_succ, getD_lit, List.getD_cons_succ, List.getD_cons_zero, Value.cells] at hE1)
    | ((with_reducible (show Go.wpList _ _ _ (Go.Oper.mk _ (.alloc 45) _ _ _ _ :: _) _ _)); refine wpl_alloc hE1 rfl rfl (by simp [go_sem]; rfl) ?_; clear hE1; intro b4 w hE2; simp only [Act.eval, Act.put, List.setIfInBounds_toArray, List.set_cons_zero, List.set_cons_succ, getD_lit, List.getD_cons_succ, List.getD_cons_zero, Value.cells] at hE2)
    | ((with_reducible (show Go.wpList _ _ _ (Go.Oper.mk _ (.store 45 _ _) _ _ _ _ :: _) _ _)); refine wpl_storeW hE2 0 rfl rfl rfl (xs := [.int .u8 x.toNat, .string ⟨#[]⟩, .slice none 0 0]) rfl rfl Try.sizeOf45 rfl (by simp [Value.oneCell']) rfl ?_; clear hE2; intro w hE3; simp only [List.set_cons_zero, List.set_cons_succ] at hE3)
    | ((with_reducible (show Go.wpList _ _ _ (Go.Oper.mk _ (.load 5 _) _ _ _ _ :: _) _ _)); refine wpl_load1 hE3 0 rfl rfl rfl rfl (by simp [go_sem]) rfl ?_)
    | ((with_reducible (show Go.wpList _ _ _ (Go.Oper.mk _ (.alloc 108) _ _ _ _ :: _) _ _)); refine wpl_alloc hE3 rfl rfl (by simp [go_sem]; rfl) ?_; clear hE3; intro b5 w hE5; simp only [Act.eval, Act.put, List.setIfInBounds_toArray, List.set_cons_zero, List.set_cons_succ, getD_lit, List.getD_cons_succ, List.getD_cons_zero, Value.cells] at hE5)
    | ((with_reducible (show Go.wpList _ _ _ (Go.Oper.mk _ (.store 108 (.tmp 5) _) _ _ _ _ :: _) _ _)); refine wpl_storeW hE5 0 rfl rfl rfl (xs := rcs ⟨r, 0⟩) rfl rfl Try.sizeOf108 rfl (by simp [rcs, Value.oneCell']) rfl ?_; clear hE5; intro w hE6; simp only [List.set_cons_zero, List.set_cons_succ] at hE6)
    | ((with_reducible (show Go.wpList _ _ _ (Go.Oper.mk _ (.load 108 (.tmp 5)) _ _ _ _ :: _) _ _)); refine wpl_loadW hE6 0 rfl rfl rfl rfl Try.isAgg108 Try.sizeOf108 (xs := rcs ⟨r, 0⟩) rfl ?_)
    | (go_at_call 61; have H := hT2 hE6; refine H.mono ?_; clear H hE6; rintro e w2 ⟨v, rfl, rfl, hE7⟩)
    | ((with_reducible (show Go.wpList _ _ _ (Go.Oper.mk _ (.store 108 (.tmp 5) _) _ _ _ _ :: _) _ _)); refine wpl_storeW hE7 0 rfl rfl rfl (xs := rcs s2) rfl rfl Try.sizeOf108 rfl (by simp [rcs, Value.oneCell']) rfl ?_; clear hE7; intro w hE; simp only [List.set_cons_zero, List.set_cons_succ] at hE))
  replace hE := ((hE.nil 118 36).front 2 rfl).front 2 rfl
  go_loopw [7] (fun i wr => RTakeRel d s2 n b5 b4 x.toNat (pt b2 (.cells #[.int .u8 0, .string ⟨#[]⟩, .slice none 0 0] 45) :: l) i wr) (fun i _ => n - (intOf i).toNat)
  case atStart => exact ⟨0, none, 0, Nat.zero_le _, rfl, hE⟩
  case round =>
    clear hE
    obtain ⟨k, ao, c, hkl, rfl, hE⟩ := hrel
    by_cases hlt : k < n
    · have hsl' := Hpl.out k
      have Hgk := SL.hid (pkids_good d s2 k)
      have Hct := SL.hid (pkids_count d s2 k)
      have Hsu1 := SL.hid (pkids_succ1 d k s2)
      have Hsu2 := SL.hid (pkids_succ2 d k s2)
      generalize (pkids d k s2).2 = s at *
      generalize (pkids d k s2).1 = ks at *
      have hklen : ks.length = k := Hct.out
      have hwk : IntKind.u64.wrap ((k : Int) + 1) = (k : Int) + 1 := wrapU_id (by omega)
      cases d with
      | true =>
        obtain ⟨sA, eA⟩ : ∃ y, y = tk 1 s := ⟨_, rfl⟩
        have lA : sA.bs.length ≤ s.bs.length := by rw [eA]; exact tk_len _ _
        obtain ⟨m1, em1⟩ : ∃ y, y = tkV 1 s := ⟨_, rfl⟩
        have hA1 : ∀ {l : List HProp} {w : World}, Ent l w → Calls Try.prog 61 #[.agg (rcs s).toArray, .int .i64 1] w (Ret fun v w' => v = .tuple #[.int .u64 m1, .agg (rcs sA).toArray] ∧ Ent l w') := fun h => by subst eA em1; exact rTake_1 h (by omega)
        obtain ⟨sB, eB⟩ : ∃ y, y = nm sA := ⟨_, rfl⟩
        have lB : sB.bs.length ≤ sA.bs.length := by rw [eB]; exact nm_len _
        obtain ⟨nmx, enm⟩ : ∃ y, y = nmV sA := ⟨_, rfl⟩
        have hA2 : ∀ {l : List HProp} {w : World}, Ent l w → Calls Try.prog 62 #[.agg (rcs sA).toArray] w (Ret fun v w' => v = .tuple #[.string ⟨nmx.toArray⟩, .agg (rcs sB).toArray] ∧ Ent l w') := fun h => by subst eB enm; exact rName_any h (by omega)
        obtain ⟨db, edb⟩ : ∃ y, y = (m1 == 1) := ⟨_, rfl⟩
        have hdb : ((m1 : Int) == 1) = db := by
          rw [edb, Bool.eq_iff_iff]
          simp
          omega
        obtain ⟨sC, eC⟩ : ∃ y, y = tx 32 sB := ⟨_, rfl⟩
        have lC : sC.bs.length ≤ sB.bs.length := by rw [eC]; exact tx_len _ _
        obtain ⟨hs, ehs⟩ : ∃ y, y = hxV sB := ⟨_, rfl⟩
        have Hh := SL.hid (show hs.length = 32 by rw [ehs]; exact hxV_len _)
        obtain ⟨ht, eht⟩ : ∃ y, y = txV 32 sB := ⟨_, rfl⟩
        have Hcp := SL.hid (show ∀ k : Kid, k.hash = hz → (kcells k).take 2 ++ (ht.map fun b => Value.int .u8 b.toNat) ++ (kcells k).drop (2 + ht.length) = kcells { k with hash := hs } from fun k hk => by rw [eht, ehs]; exact kcopy hk sB)
        have htl : ht.length ≤ 32 := by rw [eht]; exact txV32_le sB
        have hA3 : ∀ {l : List HProp} {w : World}, Ent l w → Calls Try.prog 63 #[.agg (rcs sB).toArray, .int .i64 32] w (Ret fun v w' => v = .tuple #[.string ⟨ht.toArray⟩, .agg (rcs sC).toArray] ∧ Ent l w') := fun h => by subst eC eht; exact rText_any h 32
        obtain ⟨sD, eD⟩ : ∃ y, y = tk 1 sC := ⟨_, rfl⟩
        have lD : sD.bs.length ≤ sC.bs.length := by rw [eD]; exact tk_len _ _
        obtain ⟨g, eg⟩ : ∃ y, y = UInt8.ofNat (tkV 1 sC) := ⟨_, rfl⟩
        have egn : tkV 1 sC = g.toNat := by
          have := tkV1_lt sC
          rw [eg]; simp; omega
        have hA4 : ∀ {l : List HProp} {w : World}, Ent l w → Calls Try.prog 61 #[.agg (rcs sC).toArray, .int .i64 1] w (Ret fun v w' => v = .tuple #[.int .u64 g.toNat, .agg (rcs sD).toArray] ∧ Ent l w') := fun h => by subst eD; rw [← egn]; exact rTake_1 h (by omega)
        obtain ⟨sE, eE⟩ : ∃ y, y = tk 4 sD := ⟨_, rfl⟩
        obtain ⟨z, ez⟩ : ∃ y, y = tkV 4 sD := ⟨_, rfl⟩
        have hA5 : ∀ {l : List HProp} {w : World}, Ent l w → Calls Try.prog 61 #[.agg (rcs sD).toArray, .int .i64 4] w (Ret fun v w' => v = .tuple #[.int .u64 z, .agg (rcs sE).toArray] ∧ Ent l w') := fun h => by subst eE ez; exact rTake_4 h (by omega)
        obtain ⟨zz, ezz⟩ : ∃ y, y = z % 4294967296 := ⟨_, rfl⟩
        have hz1 : IntKind.u32.wrap (z : Int) = (zz : Int) := by
          rw [ezz]
          simp only [IntKind.wrap, IntKind.bits, IntKind.signed]
          simp
        have hz2 : (z : Int) % 4294967296 = (zz : Int) := by rw [ezz]; simp
        have hg1 : IntKind.u8.wrap (g.toNat : Int) = g.toNat := by
          have := g.toNat_lt
          simp only [IntKind.wrap, IntKind.bits, IntKind.signed]
          simp
          omega
        have hg2 : (g.toNat : Int) % 256 = g.toNat := by have := g.toNat_lt; omega
        have Hx := SL.hid (show pkid true s = (⟨nmx, db, hs, g, zz⟩, sE) by
          unfold pkid
          simp only [Bool.false_eq_true, if_true, if_false, Bool.true_and, Bool.false_and]
          rw [← eA, ← enm, ← eB, ← em1, ← edb, ← ehs, ← eC, ← eg, ← eD, ← ez, ← eE, ← ezz])
        have hgood : (⟨nmx, db, hs, g, zz⟩ : Kid).good := ⟨Hh.out, by show zz < _; rw [ezz]; exact Nat.mod_lt _ (by omega)⟩
        have HX36 := SL.hid (kcells_len hgood)
        have HXone := SL.hid (kcells_one ⟨nmx, db, hs, g, zz⟩)
        clear eA em1 eB enm edb eC ehs eht eD eg egn eE ez ezz hgood
        go_wp2_with (first
          | go_skip
          | ((with_reducible (show Go.wpList _ _ _ (Go.Oper.mk _ (.load 5 _) _ _ _ _ :: _) _ _)); refine wpl_load1 hE 1 rfl rfl rfl rfl (by simp [go_sem]) rfl ?_)
          | ((with_reducible (show Go.wpList _ _ _ (Go.Oper.mk _ (.alloc 118) _ _ _ _ :: _) _ _)); refine wpl_alloc hE rfl rfl kz_zero ?_; clear hE; intro b8 w1 hE1; change Ent (pt b8 (.cells (kcells kz).toArray 118) :: _) w1 at hE1)
          | ((with_reducible (show Go.wpList _ _ _ (Go.Oper.mk _ (.load 5 _) _ _ _ _ :: _) _ _)); refine wpl_load1 hE1 2 rfl rfl rfl rfl (by simp [go_sem]) rfl ?_)
          | ((with_reducible (show Go.wpList _ _ _ (Go.Oper.mk _ (.load 108 (.tmp 5)) _ _ _ _ :: _) _ _)); refine wpl_loadW hE1 1 rfl rfl rfl rfl Try.isAgg108 Try.sizeOf108 (xs := rcs s) rfl ?_)
          | (go_at_call 61; have H := hA1 hE1; refine H.mono ?_; clear H hE1; rintro e w2 ⟨v, rfl, rfl, hD1⟩)
          | ((with_reducible (show Go.wpList _ _ _ (Go.Oper.mk _ (.alloc 108) _ _ _ _ :: _) _ _)); refine wpl_alloc hD1 rfl rfl (by simp [go_sem]; rfl) ?_; clear hD1; intro b10 w hD2; simp only [Act.eval, Act.put, List.setIfInBounds_toArray, List.set_cons_zero, List.set_cons_succ, getD_lit, List.getD_cons_succ, List.getD_cons_zero, Value.cells] at hD2)
          | ((with_reducible (show Go.wpList _ _ _ (Go.Oper.mk _ (.store 108 (.tmp 10) _) _ _ _ _ :: _) _ _)); refine wpl_storeW hD2 0 rfl rfl rfl (xs := rcs sA) rfl rfl Try.sizeOf108 rfl (by simp [rcs, Value.oneCell']) rfl ?_; clear hD2; intro w hD3; simp only [List.set_cons_zero, List.set_cons_succ] at hD3)
          | ((with_reducible (show Go.wpList _ _ _ (Go.Oper.mk _ (.load 108 (.tmp 10)) _ _ _ _ :: _) _ _)); refine wpl_loadW hD3 0 rfl rfl rfl rfl Try.isAgg108 Try.sizeOf108 (xs := rcs sA) rfl ?_)
          | (go_at_call 62; have H := hA2 hD3; refine H.mono ?_; clear H hD3; rintro e w2 ⟨v, rfl, rfl, hD4⟩)
          | ((with_reducible (show Go.wpList _ _ _ (Go.Oper.mk _ (.alloc 108) _ _ _ _ :: _) _ _)); refine wpl_alloc hD4 rfl rfl (by simp [go_sem]; rfl) ?_; clear hD4; intro b12 w hD5; simp only [Act.eval, Act.put, List.setIfInBounds_toArray, List.set_cons_zero, List.set_cons_succ, getD_lit, List.getD_cons_succ, List.getD_cons_zero, Value.cells] at hD5)
          | ((with_reducible (show Go.wpList _ _ _ (Go.Oper.mk _ (.store 108 (.tmp 12) _) _ _ _ _ :: _) _ _)); refine wpl_storeW hD5 0 rfl rfl rfl (xs := rcs sB) rfl rfl Try.sizeOf108 rfl (by simp [rcs, Value.oneCell']) rfl ?_; clear hD5; intro w hD6; simp only [List.set_cons_zero, List.set_cons_succ] at hD6)
          | ((with_reducible (show Go.wpList _ _ _ (Go.Oper.mk _ (.store 4 _ _) _ _ _ _ :: _) _ _)); refine wpl_storeK hD6 2 (n := 1) rfl rfl rfl rfl rfl (by first | (simp [go_sem]; done) | (simp [go_sem]; rfl)) rfl (one_b db) (by rw [kcells_len ⟨rfl, by show 0 < _; omega⟩]; omega) (kset1 kz db) ?_; clear hD6; intro w1 hD7; simp only [List.set_cons_zero, List.set_cons_succ] at hD7)
          | ((with_reducible (show Go.wpList _ _ _ (Go.Oper.mk _ (.store 9 _ _) _ _ _ _ :: _) _ _)); refine wpl_storeK hD7 2 (n := 1) rfl rfl rfl rfl rfl (by first | (simp [go_sem]; done) | (simp [go_sem]; rfl)) rfl (one_s _) (by rw [kcells_len ⟨rfl, by show 0 < _; omega⟩]; omega) (kset0 { kz with dir := db } nmx) ?_; clear hD7; intro w1 hD8; simp only [List.set_cons_zero, List.set_cons_succ] at hD8)
          | ((with_reducible (show Go.wpList _ _ _ (Go.Oper.mk _ (.load 108 (.tmp 12)) _ _ _ _ :: _) _ _)); refine wpl_loadW hD8 0 rfl rfl rfl rfl Try.isAgg108 Try.sizeOf108 (xs := rcs sB) rfl ?_)
          | ((with_reducible (show Go.wpList _ _ _ (Go.Oper.mk _ (.store 108 (.tmp 5) _) _ _ _ _ :: _) _ _)); refine wpl_storeW hD8 3 rfl rfl rfl (xs := rcs sB) rfl rfl Try.sizeOf108 rfl (by simp [rcs, Value.oneCell']) rfl ?_; clear hD8; intro w hF0; simp only [List.set_cons_zero, List.set_cons_succ] at hF0)
          | ((with_reducible (show Go.wpList _ _ _ (Go.Oper.mk _ (.load 108 (.tmp 5)) _ _ _ _ :: _) _ _)); refine wpl_loadW hF0 3 rfl rfl rfl rfl Try.isAgg108 Try.sizeOf108 (xs := rcs sB) rfl ?_)
          | (go_at_call 63; have H := hA3 hF0; refine H.mono ?_; clear H hF0; rintro e w2 ⟨v, rfl, rfl, hF1⟩)
          | ((with_reducible (show Go.wpList _ _ _ (Go.Oper.mk _ (.alloc 108) _ _ _ _ :: _) _ _)); refine wpl_alloc hF1 rfl rfl (by simp [go_sem]; rfl) ?_; clear hF1; intro b14 w hF2; simp only [Act.eval, Act.put, List.setIfInBounds_toArray, List.set_cons_zero, List.set_cons_succ, getD_lit, List.getD_cons_succ, List.getD_cons_zero, Value.cells] at hF2)
          | ((with_reducible (show Go.wpList _ _ _ (Go.Oper.mk _ (.store 108 (.tmp 14) _) _ _ _ _ :: _) _ _)); refine wpl_storeW hF2 0 rfl rfl rfl (xs := rcs sC) rfl rfl Try.sizeOf108 rfl (by simp [rcs, Value.oneCell']) rfl ?_; clear hF2; intro w hF3; simp only [List.set_cons_zero, List.set_cons_succ] at hF3)
          | ((with_reducible (show Go.wpList _ _ _ (Go.Oper.mk _ (.load 108 (.tmp 14)) _ _ _ _ :: _) _ _)); refine wpl_loadW hF3 0 rfl rfl rfl rfl Try.isAgg108 Try.sizeOf108 (xs := rcs sC) rfl ?_)
          | (go_at_call 61; have H := hA4 hF3; refine H.mono ?_; clear H hF3; rintro e w2 ⟨v, rfl, rfl, hF4⟩)
          | ((with_reducible (show Go.wpList _ _ _ (Go.Oper.mk _ (.alloc 108) _ _ _ _ :: _) _ _)); refine wpl_alloc hF4 rfl rfl (by simp [go_sem]; rfl) ?_; clear hF4; intro b16 w hF5; simp only [Act.eval, Act.put, List.setIfInBounds_toArray, List.set_cons_zero, List.set_cons_succ, getD_lit, List.getD_cons_succ, List.getD_cons_zero, Value.cells] at hF5)
          | ((with_reducible (show Go.wpList _ _ _ (Go.Oper.mk _ (.store 108 (.tmp 16) _) _ _ _ _ :: _) _ _)); refine wpl_storeW hF5 0 rfl rfl rfl (xs := rcs sD) rfl rfl Try.sizeOf108 rfl (by simp [rcs, Value.oneCell']) rfl ?_; clear hF5; intro w hF6; simp only [List.set_cons_zero, List.set_cons_succ] at hF6)
          | ((with_reducible (show Go.wpList _ _ _ (Go.Oper.mk _ (.load 108 (.tmp 16)) _ _ _ _ :: _) _ _)); refine wpl_loadW hF6 0 rfl rfl rfl rfl Try.isAgg108 Try.sizeOf108 (xs := rcs sD) rfl ?_)
          | (go_at_call 61; have H := hA5 hF6; refine H.mono ?_; clear H hF6; rintro e w2 ⟨v, rfl, rfl, hF7⟩)
          | ((with_reducible (show Go.wpList _ _ _ (Go.Oper.mk _ (.alloc 108) _ _ _ _ :: _) _ _)); refine wpl_alloc hF7 rfl rfl (by simp [go_sem]; rfl) ?_; clear hF7; intro b18 w hF8; simp only [Act.eval, Act.put, List.setIfInBounds_toArray, List.set_cons_zero, List.set_cons_succ, getD_lit, List.getD_cons_succ, List.getD_cons_zero, Value.cells] at hF8)
          | ((with_reducible (show Go.wpList _ _ _ (Go.Oper.mk _ (.store 108 (.tmp 18) _) _ _ _ _ :: _) _ _)); refine wpl_storeW hF8 0 rfl rfl rfl (xs := rcs sE) rfl rfl Try.sizeOf108 rfl (by simp [rcs, Value.oneCell']) rfl ?_; clear hF8; intro w hF9; simp only [List.set_cons_zero, List.set_cons_succ] at hF9)
          | ((with_reducible (show Go.wpList _ _ _ (Go.Oper.mk _ (.load 108 (.tmp 18)) _ _ _ _ :: _) _ _)); refine wpl_loadW hF9 0 rfl rfl rfl rfl Try.isAgg108 Try.sizeOf108 (xs := rcs sE) rfl ?_)
          | ((with_reducible (show Go.wpList _ _ _ (Go.Oper.mk _ (.store 108 (.tmp 5) _) _ _ _ _ :: _) _ _)); refine wpl_storeW hF9 6 rfl rfl rfl (xs := rcs sE) rfl rfl Try.sizeOf108 rfl (by simp [rcs, Value.oneCell']) rfl ?_; clear hF9; intro w hG0; simp only [List.set_cons_zero, List.set_cons_succ] at hG0)
          | ((with_reducible (show Go.wpList _ _ _ (Go.Oper.mk _ (.call _) _ _ _ _ :: _) _ _)); refine wpl_copyAt hG0 5 (cur := kcells ⟨nmx, db, hz, 0, 0⟩) rfl rfl rfl rfl rfl Try.underlying42 (by kernel_rfl) htl (by rw [kcells_len ⟨rfl, by show 0 < _; omega⟩]; omega) (Hcp.out ⟨nmx, db, hz, 0, 0⟩ rfl) ?_; clear hG0; intro w1 hG1; simp only [List.set_cons_zero, List.set_cons_succ] at hG1)
          | ((with_reducible (show Go.wpList _ _ _ (Go.Oper.mk _ (.store 5 _ _) _ _ _ _ :: _) _ _)); refine wpl_storeK hG1 5 (n := 1) rfl rfl rfl rfl rfl (by first | (simp [go_sem]; done) | (simp [go_sem]; rfl)) rfl (one_i _ _) (by rw [kcells_len ⟨Hh.out, by show 0 < _; omega⟩]; omega) (kset34 (k := ⟨nmx, db, hs, 0, 0⟩) Hh.out g) ?_; clear hG1; intro w1 hG2; simp only [List.set_cons_zero, List.set_cons_succ] at hG2)
          | ((with_reducible (show Go.wpList _ _ _ (Go.Oper.mk _ (.store 57 _ _) _ _ _ _ :: _) _ _)); refine wpl_storeK hG2 5 (n := 1) rfl rfl rfl rfl rfl (by first | (simp [go_sem]; done) | (simp [go_sem]; rfl)) rfl (one_i _ _) (by rw [kcells_len ⟨Hh.out, by show 0 < _; omega⟩]; omega) (kset35 (k := ⟨nmx, db, hs, g, 0⟩) Hh.out zz) ?_; clear hG2; intro w1 hG3; simp only [List.set_cons_zero, List.set_cons_succ] at hG3)
          | ((with_reducible (show Go.wpList _ _ _ (Go.Oper.mk _ (.load 43 _) _ _ _ _ :: _) _ _)); refine wpl_load1 hG3 7 rfl rfl rfl rfl (by simp [go_sem]) rfl ?_)
          | ((with_reducible (show Go.wpList _ _ _ (Go.Oper.mk _ (.load 118 _) _ _ _ _ :: _) _ _)); refine wpl_loadW hG3 5 rfl rfl rfl rfl Try.isAgg118 Try.sizeOf118 HX36.out ?_)
          | ((with_reducible (show Go.wpList _ _ _ (Go.Oper.mk _ (.buildSlice _ _ _) _ _ _ _ :: _) _ _)); refine wpl_build1 hG3 rfl rfl (xs := kcells ⟨nmx, db, hs, g, zz⟩) rfl Try.underlying43 (size := 36) (by kernel_rfl) Try.sizeOf118 (by decide) (by decide) HX36.out ?_; clear hG3; intro bs1 w1 hG4)
          | (at_builtin; refine wpl_appendG hG4 9 rfl rfl rfl rfl rfl Try.underlying43 info_rkid (by decide) (m := 1) (news := kcells ⟨nmx, db, hs, g, zz⟩) (reads_pt hG4 0 rfl (fun j u hu => by rw [Nat.zero_add, List.getElem?_toArray]; exact hu)) HX36.out HXone.out (by omega) (by omega) ?_; clear hG4; intro ao2 c2 w1 hG5; simp only [List.set_cons_zero, List.set_cons_succ] at hG5)
          | ((with_reducible (show Go.wpList _ _ _ (Go.Oper.mk _ (.store 43 _ _) _ _ _ _ :: _) _ _)); refine wpl_store hG5 8 rfl rfl rfl rfl rfl (by simp [go_sem]; rfl) (by rfl) (by simp [Value.cells, Value.oneCell', Act.eval]) (by simp) ?_; clear hG5; intro w hG6; simp only [Act.eval, getD_lit, List.getD_cons_succ, List.getD_cons_zero, Value.cells, List.set_cons_zero, List.set_cons_succ, List.take_succ_cons, List.take_zero, List.nil_append, List.cons_append, List.drop_succ_cons, List.drop_zero, List.length_cons, List.length_nil, Nat.reduceAdd, Nat.zero_add] at hG6))
        go_roundw
        case rel =>
          refine ⟨k + 1, ao2, c2, hlt, by simp, ?_⟩
          have hF := hG6.tail.tail.tail.tail.tail.tail.tail
          have hkc : kidCells (ks ++ [⟨nmx, db, hs, g, zz⟩]) = kidCells ks ++ kcells ⟨nmx, db, hs, g, zz⟩ := by simp [kidCells]
          rw [Hsu2.out, Hsu1.out, Hx.out]
          simp only [rowRK, hkc, List.length_append, List.length_cons, List.length_nil, Nat.zero_add]
          simp only [hklen] at hF ⊢
          exact hF
        case measure => simp [intOf]; omega
      | false =>
        obtain ⟨sC, eC⟩ : ∃ y, y = tx 32 s := ⟨_, rfl⟩
        have lC : sC.bs.length ≤ s.bs.length := by rw [eC]; exact tx_len _ _
        obtain ⟨hs, ehs⟩ : ∃ y, y = hxV s := ⟨_, rfl⟩
        have Hh := SL.hid (show hs.length = 32 by rw [ehs]; exact hxV_len _)
        obtain ⟨ht, eht⟩ : ∃ y, y = txV 32 s := ⟨_, rfl⟩
        have Hcp := SL.hid (show ∀ k : Kid, k.hash = hz → (kcells k).take 2 ++ (ht.map fun b => Value.int .u8 b.toNat) ++ (kcells k).drop (2 + ht.length) = kcells { k with hash := hs } from fun k hk => by rw [eht, ehs]; exact kcopy hk s)
        have htl : ht.length ≤ 32 := by rw [eht]; exact txV32_le s
        have hA3 : ∀ {l : List HProp} {w : World}, Ent l w → Calls Try.prog 63 #[.agg (rcs s).toArray, .int .i64 32] w (Ret fun v w' => v = .tuple #[.string ⟨ht.toArray⟩, .agg (rcs sC).toArray] ∧ Ent l w') := fun h => by subst eC eht; exact rText_any h 32
        obtain ⟨sD, eD⟩ : ∃ y, y = tk 1 sC := ⟨_, rfl⟩
        have lD : sD.bs.length ≤ sC.bs.length := by rw [eD]; exact tk_len _ _
        obtain ⟨g, eg⟩ : ∃ y, y = UInt8.ofNat (tkV 1 sC) := ⟨_, rfl⟩
        have egn : tkV 1 sC = g.toNat := by
          have := tkV1_lt sC
          rw [eg]; simp; omega
        have hA4 : ∀ {l : List HProp} {w : World}, Ent l w → Calls Try.prog 61 #[.agg (rcs sC).toArray, .int .i64 1] w (Ret fun v w' => v = .tuple #[.int .u64 g.toNat, .agg (rcs sD).toArray] ∧ Ent l w') := fun h => by subst eD; rw [← egn]; exact rTake_1 h (by omega)
        obtain ⟨sE, eE⟩ : ∃ y, y = tk 4 sD := ⟨_, rfl⟩
        obtain ⟨z, ez⟩ : ∃ y, y = tkV 4 sD := ⟨_, rfl⟩
        have hA5 : ∀ {l : List HProp} {w : World}, Ent l w → Calls Try.prog 61 #[.agg (rcs sD).toArray, .int .i64 4] w (Ret fun v w' => v = .tuple #[.int .u64 z, .agg (rcs sE).toArray] ∧ Ent l w') := fun h => by subst eE ez; exact rTake_4 h (by omega)
        obtain ⟨zz, ezz⟩ : ∃ y, y = z % 4294967296 := ⟨_, rfl⟩
        have hz1 : IntKind.u32.wrap (z : Int) = (zz : Int) := by
          rw [ezz]
          simp only [IntKind.wrap, IntKind.bits, IntKind.signed]
          simp
        have hz2 : (z : Int) % 4294967296 = (zz : Int) := by rw [ezz]; simp
        have hg1 : IntKind.u8.wrap (g.toNat : Int) = g.toNat := by
          have := g.toNat_lt
          simp only [IntKind.wrap, IntKind.bits, IntKind.signed]
          simp
          omega
        have hg2 : (g.toNat : Int) % 256 = g.toNat := by have := g.toNat_lt; omega
        have Hx := SL.hid (show pkid false s = (⟨[], false, hs, g, zz⟩, sE) by
          unfold pkid
          simp only [Bool.false_eq_true, if_true, if_false, Bool.true_and, Bool.false_and]
          rw [← ehs, ← eC, ← eg, ← eD, ← ez, ← eE, ← ezz])
        have hgood : (⟨[], false, hs, g, zz⟩ : Kid).good := ⟨Hh.out, by show zz < _; rw [ezz]; exact Nat.mod_lt _ (by omega)⟩
        have HX36 := SL.hid (kcells_len hgood)
        have HXone := SL.hid (kcells_one ⟨[], false, hs, g, zz⟩)
        clear eC ehs eht eD eg egn eE ez ezz hgood
        go_wp2_with (first
          | go_skip
          | ((with_reducible (show Go.wpList _ _ _ (Go.Oper.mk _ (.load 5 _) _ _ _ _ :: _) _ _)); refine wpl_load1 hE 1 rfl rfl rfl rfl (by simp [go_sem]) rfl ?_)
          | ((with_reducible (show Go.wpList _ _ _ (Go.Oper.mk _ (.alloc 118) _ _ _ _ :: _) _ _)); refine wpl_alloc hE rfl rfl kz_zero ?_; clear hE; intro b8 w1 hE1; change Ent (pt b8 (.cells (kcells kz).toArray 118) :: _) w1 at hE1)
          | ((with_reducible (show Go.wpList _ _ _ (Go.Oper.mk _ (.load 5 _) _ _ _ _ :: _) _ _)); refine wpl_load1 hE1 2 rfl rfl rfl rfl (by simp [go_sem]) rfl ?_)
          | ((with_reducible (show Go.wpList _ _ _ (Go.Oper.mk _ (.load 108 (.tmp 5)) _ _ _ _ :: _) _ _)); refine wpl_loadW hE1 1 rfl rfl rfl rfl Try.isAgg108 Try.sizeOf108 (xs := rcs s) rfl ?_)
          | (go_at_call 63; have H := hA3 hE1; refine H.mono ?_; clear H hE1; rintro e w2 ⟨v, rfl, rfl, hF1⟩)
          | ((with_reducible (show Go.wpList _ _ _ (Go.Oper.mk _ (.alloc 108) _ _ _ _ :: _) _ _)); refine wpl_alloc hF1 rfl rfl (by simp [go_sem]; rfl) ?_; clear hF1; intro b14 w hF2; simp only [Act.eval, Act.put, List.setIfInBounds_toArray, List.set_cons_zero, List.set_cons_succ, getD_lit, List.getD_cons_succ, List.getD_cons_zero, Value.cells] at hF2)
          | ((with_reducible (show Go.wpList _ _ _ (Go.Oper.mk _ (.store 108 (.tmp 14) _) _ _ _ _ :: _) _ _)); refine wpl_storeW hF2 0 rfl rfl rfl (xs := rcs sC) rfl rfl Try.sizeOf108 rfl (by simp [rcs, Value.oneCell']) rfl ?_; clear hF2; intro w hF3; simp only [List.set_cons_zero, List.set_cons_succ] at hF3)
          | ((with_reducible (show Go.wpList _ _ _ (Go.Oper.mk _ (.load 108 (.tmp 14)) _ _ _ _ :: _) _ _)); refine wpl_loadW hF3 0 rfl rfl rfl rfl Try.isAgg108 Try.sizeOf108 (xs := rcs sC) rfl ?_)
          | (go_at_call 61; have H := hA4 hF3; refine H.mono ?_; clear H hF3; rintro e w2 ⟨v, rfl, rfl, hF4⟩)
          | ((with_reducible (show Go.wpList _ _ _ (Go.Oper.mk _ (.alloc 108) _ _ _ _ :: _) _ _)); refine wpl_alloc hF4 rfl rfl (by simp [go_sem]; rfl) ?_; clear hF4; intro b16 w hF5; simp only [Act.eval, Act.put, List.setIfInBounds_toArray, List.set_cons_zero, List.set_cons_succ, getD_lit, List.getD_cons_succ, List.getD_cons_zero, Value.cells] at hF5)
          | ((with_reducible (show Go.wpList _ _ _ (Go.Oper.mk _ (.store 108 (.tmp 16) _) _ _ _ _ :: _) _ _)); refine wpl_storeW hF5 0 rfl rfl rfl (xs := rcs sD) rfl rfl Try.sizeOf108 rfl (by simp [rcs, Value.oneCell']) rfl ?_; clear hF5; intro w hF6; simp only [List.set_cons_zero, List.set_cons_succ] at hF6)
          | ((with_reducible (show Go.wpList _ _ _ (Go.Oper.mk _ (.load 108 (.tmp 16)) _ _ _ _ :: _) _ _)); refine wpl_loadW hF6 0 rfl rfl rfl rfl Try.isAgg108 Try.sizeOf108 (xs := rcs sD) rfl ?_)
          | (go_at_call 61; have H := hA5 hF6; refine H.mono ?_; clear H hF6; rintro e w2 ⟨v, rfl, rfl, hF7⟩)
          | ((with_reducible (show Go.wpList _ _ _ (Go.Oper.mk _ (.alloc 108) _ _ _ _ :: _) _ _)); refine wpl_alloc hF7 rfl rfl (by simp [go_sem]; rfl) ?_; clear hF7; intro b18 w hF8; simp only [Act.eval, Act.put, List.setIfInBounds_toArray, List.set_cons_zero, List.set_cons_succ, getD_lit, List.getD_cons_succ, List.getD_cons_zero, Value.cells] at hF8)
          | ((with_reducible (show Go.wpList _ _ _ (Go.Oper.mk _ (.store 108 (.tmp 18) _) _ _ _ _ :: _) _ _)); refine wpl_storeW hF8 0 rfl rfl rfl (xs := rcs sE) rfl rfl Try.sizeOf108 rfl (by simp [rcs, Value.oneCell']) rfl ?_; clear hF8; intro w hF9; simp only [List.set_cons_zero, List.set_cons_succ] at hF9)
          | ((with_reducible (show Go.wpList _ _ _ (Go.Oper.mk _ (.load 108 (.tmp 18)) _ _ _ _ :: _) _ _)); refine wpl_loadW hF9 0 rfl rfl rfl rfl Try.isAgg108 Try.sizeOf108 (xs := rcs sE) rfl ?_)
          | ((with_reducible (show Go.wpList _ _ _ (Go.Oper.mk _ (.store 108 (.tmp 5) _) _ _ _ _ :: _) _ _)); refine wpl_storeW hF9 4 rfl rfl rfl (xs := rcs sE) rfl rfl Try.sizeOf108 rfl (by simp [rcs, Value.oneCell']) rfl ?_; clear hF9; intro w hG0; simp only [List.set_cons_zero, List.set_cons_succ] at hG0)
          | ((with_reducible (show Go.wpList _ _ _ (Go.Oper.mk _ (.call _) _ _ _ _ :: _) _ _)); refine wpl_copyAt hG0 3 (cur := kcells ⟨[], false, hz, 0, 0⟩) rfl rfl rfl rfl rfl Try.underlying42 (by kernel_rfl) htl (by rw [kcells_len ⟨rfl, by show 0 < _; omega⟩]; omega) (Hcp.out ⟨[], false, hz, 0, 0⟩ rfl) ?_; clear hG0; intro w1 hG1; simp only [List.set_cons_zero, List.set_cons_succ] at hG1)
          | ((with_reducible (show Go.wpList _ _ _ (Go.Oper.mk _ (.store 5 _ _) _ _ _ _ :: _) _ _)); refine wpl_storeK hG1 3 (n := 1) rfl rfl rfl rfl rfl (by first | (simp [go_sem]; done) | (simp [go_sem]; rfl)) rfl (one_i _ _) (by rw [kcells_len ⟨Hh.out, by show 0 < _; omega⟩]; omega) (kset34 (k := ⟨[], false, hs, 0, 0⟩) Hh.out g) ?_; clear hG1; intro w1 hG2; simp only [List.set_cons_zero, List.set_cons_succ] at hG2)
          | ((with_reducible (show Go.wpList _ _ _ (Go.Oper.mk _ (.store 57 _ _) _ _ _ _ :: _) _ _)); refine wpl_storeK hG2 3 (n := 1) rfl rfl rfl rfl rfl (by first | (simp [go_sem]; done) | (simp [go_sem]; rfl)) rfl (one_i _ _) (by rw [kcells_len ⟨Hh.out, by show 0 < _; omega⟩]; omega) (kset35 (k := ⟨[], false, hs, g, 0⟩) Hh.out zz) ?_; clear hG2; intro w1 hG3; simp only [List.set_cons_zero, List.set_cons_succ] at hG3)
          | ((with_reducible (show Go.wpList _ _ _ (Go.Oper.mk _ (.load 43 _) _ _ _ _ :: _) _ _)); refine wpl_load1 hG3 5 rfl rfl rfl rfl (by simp [go_sem]) rfl ?_)
          | ((with_reducible (show Go.wpList _ _ _ (Go.Oper.mk _ (.load 118 _) _ _ _ _ :: _) _ _)); refine wpl_loadW hG3 3 rfl rfl rfl rfl Try.isAgg118 Try.sizeOf118 HX36.out ?_)
          | ((with_reducible (show Go.wpList _ _ _ (Go.Oper.mk _ (.buildSlice _ _ _) _ _ _ _ :: _) _ _)); refine wpl_build1 hG3 rfl rfl (xs := kcells ⟨[], false, hs, g, zz⟩) rfl Try.underlying43 (size := 36) (by kernel_rfl) Try.sizeOf118 (by decide) (by decide) HX36.out ?_; clear hG3; intro bs1 w1 hG4)
          | (at_builtin; refine wpl_appendG hG4 7 rfl rfl rfl rfl rfl Try.underlying43 info_rkid (by decide) (m := 1) (news := kcells ⟨[], false, hs, g, zz⟩) (reads_pt hG4 0 rfl (fun j u hu => by rw [Nat.zero_add, List.getElem?_toArray]; exact hu)) HX36.out HXone.out (by omega) (by omega) ?_; clear hG4; intro ao2 c2 w1 hG5; simp only [List.set_cons_zero, List.set_cons_succ] at hG5)
          | ((with_reducible (show Go.wpList _ _ _ (Go.Oper.mk _ (.store 43 _ _) _ _ _ _ :: _) _ _)); refine wpl_store hG5 6 rfl rfl rfl rfl rfl (by simp [go_sem]; rfl) (by rfl) (by simp [Value.cells, Value.oneCell', Act.eval]) (by simp) ?_; clear hG5; intro w hG6; simp only [Act.eval, getD_lit, List.getD_cons_succ, List.getD_cons_zero, Value.cells, List.set_cons_zero, List.set_cons_succ, List.take_succ_cons, List.take_zero, List.nil_append, List.cons_append, List.drop_succ_cons, List.drop_zero, List.length_cons, List.length_nil, Nat.reduceAdd, Nat.zero_add] at hG6))
        go_roundw
        case rel =>
          refine ⟨k + 1, ao2, c2, hlt, by simp, ?_⟩
          have hF := hG6.tail.tail.tail.tail.tail
          have hkc : kidCells (ks ++ [⟨[], false, hs, g, zz⟩]) = kidCells ks ++ kcells ⟨[], false, hs, g, zz⟩ := by simp [kidCells]
          rw [Hsu2.out, Hsu1.out, Hx.out]
          simp only [rowRK, hkc, List.length_append, List.length_cons, List.length_nil, Nat.zero_add]
          simp only [hklen] at hF ⊢
          exact hF
        case measure => simp [intOf]; omega
    · obtain rfl : k = n := by omega
      have Hg := SL.hid (pkids_good d s2 k)
      have hct := pkids_count d s2 k
      have hlk : (pkids d k s2).1.length ≤ 1000 := by omega
      clear hct
      generalize (pkids d k s2).2 = s at *
      generalize (pkids d k s2).1 = ks at *
      cases hm : mayC (pchunk bs).1 with
      | false =>
        obtain ⟨r1, r2⟩ := takeC_bad (bs := bs) (by rw [hm]; rfl)
        have R1 := SL.hid r1
        have R2 := SL.hid r2
        clear r1 r2
        have P1 := SL.hid hp1
        have Hm := SL.hid (show mayC ⟨x, [], ks⟩ = false by rw [← hp1]; exact hm)
        have Hgk := SL.hid Hg.out
        have Hlk := SL.hid hlk
        clear hm hp1
        go_wp2_with (first
          | go_skip
          | ((with_reducible (show Go.wpList _ _ _ (Go.Oper.mk _ (.load 5 _) _ _ _ _ :: _) _ _)); refine wpl_load1 hE 1 rfl rfl rfl rfl (by simp [go_sem]) rfl ?_)
          | ((with_reducible (show Go.wpList _ _ _ (Go.Oper.mk _ (.load 45 _) _ _ _ _ :: _) _ _)); refine wpl_loadW hE 1 rfl rfl rfl rfl Try.isAgg45 Try.sizeOf45 (xs := [.int .u8 x.toNat, .string ⟨#[]⟩, .slice ao ks.length c]) rfl ?_)
          | (go_at_call 64; have H := rMay_any (u := x) (data := ([] : List UInt8)) (ks := ks) Hgk.out (by have := Hlk.out; omega) hE (fun W hW => reads_row hW 2 rfl); rw [Hm.out] at H; refine H.mono ?_; clear H hE; rintro e w6 ⟨v, rfl, rfl, hE6⟩)
          | (refine wpl_storeW hE6 3 rfl rfl rfl (xs := [.int .u8 0, .string ⟨#[]⟩, .slice none 0 0]) rfl rfl Try.sizeOf45 rfl (by simp [Value.oneCell']) rfl ?_; clear hE6; intro w hE8; simp only [List.set_cons_zero, List.set_cons_succ] at hE8))
        refine bodyPost_ret (results_cell2 rfl hE8 3 rfl rfl Try.isAgg45 Try.sizeOf45 rfl rfl) rfl ?_
        exact ⟨_, rfl, none, 0, by rw [R1.out, R2.out]; rfl, by rw [R1.out]; exact (hE8.tail.tail.tail.tail).nil _ _⟩
      | true =>
        cases hq : (putC (pchunk bs).1 == bs) with
        | false =>
          obtain ⟨r1, r2⟩ := takeC_bad (bs := bs) (by rw [hm, hq]; rfl)
          have R1 := SL.hid r1
          have R2 := SL.hid r2
          clear r1 r2
          have P1 := SL.hid hp1
          have Hm := SL.hid (show mayC ⟨x, [], ks⟩ = true by rw [← hp1]; exact hm)
          generalize hpp : putC ⟨x, [], ks⟩ = pp
          have hq' : (pp == bs) = false := by rw [← hpp, ← hp1]; exact hq
          have Hpp := SL.hid hpp
          clear hq hpp
          have Hgk := SL.hid Hg.out
          have Hlk := SL.hid hlk
          clear hm hp1
          go_wp2_with (first
            | go_skip
            | ((with_reducible (show Go.wpList _ _ _ (Go.Oper.mk _ (.load 5 _) _ _ _ _ :: _) _ _)); refine wpl_load1 hE 1 rfl rfl rfl rfl (by simp [go_sem]) rfl ?_)
            | ((with_reducible (show Go.wpList _ _ _ (Go.Oper.mk _ (.load 45 _) _ _ _ _ :: _) _ _)); refine wpl_loadW hE 1 rfl rfl rfl rfl Try.isAgg45 Try.sizeOf45 (xs := [.int .u8 x.toNat, .string ⟨#[]⟩, .slice ao ks.length c]) rfl ?_)
            | (go_at_call 64; have H := rMay_any (u := x) (data := ([] : List UInt8)) (ks := ks) Hgk.out (by have := Hlk.out; omega) hE (fun W hW => reads_row hW 2 rfl); rw [Hm.out] at H; refine H.mono ?_; clear H hE; rintro e w6 ⟨v, rfl, rfl, hE6⟩)
            | ((with_reducible (show Go.wpList _ _ _ (Go.Oper.mk _ (.load 45 _) _ _ _ _ :: _) _ _)); refine wpl_loadW hE6 1 rfl rfl rfl rfl Try.isAgg45 Try.sizeOf45 (xs := [.int .u8 x.toNat, .string ⟨#[]⟩, .slice ao ks.length c]) rfl ?_)
            | (go_at_call 65; have H := rPut_yes (u := x) (data := ([] : List UInt8)) (ks := ks) Hgk.out Hm.out hE6 (fun W hW => reads_row hW 2 rfl); rw [Hpp.out] at H; refine H.mono ?_; clear H hE6; rintro e w6 ⟨v, rfl, rfl, hE7⟩)
            | (refine wpl_storeW hE7 3 rfl rfl rfl (xs := [.int .u8 0, .string ⟨#[]⟩, .slice none 0 0]) rfl rfl Try.sizeOf45 rfl (by simp [Value.oneCell']) rfl ?_; clear hE7; intro w hE8; simp only [List.set_cons_zero, List.set_cons_succ] at hE8))
          refine bodyPost_ret (results_cell2 rfl hE8 3 rfl rfl Try.isAgg45 Try.sizeOf45 rfl rfl) rfl ?_
          exact ⟨_, rfl, none, 0, by rw [R1.out, R2.out]; rfl, by rw [R1.out]; exact (hE8.tail.tail.tail.tail).nil _ _⟩
        | true =>
          obtain ⟨r1, r2, _⟩ := takeC_good hm hq
          have R1 := SL.hid r1
          have R2 := SL.hid r2
          clear r1 r2
          have P1 := SL.hid hp1
          have Hm := SL.hid (show mayC ⟨x, [], ks⟩ = true by rw [← hp1]; exact hm)
          generalize hpp : putC ⟨x, [], ks⟩ = pp
          have hq' : (pp == bs) = true := by rw [← hpp, ← hp1]; exact hq
          have Hpp := SL.hid hpp
          clear hq hpp
          have Hgk := SL.hid Hg.out
          have Hlk := SL.hid hlk
          clear hm hp1
          go_wp2_with (first
            | go_skip
            | ((with_reducible (show Go.wpList _ _ _ (Go.Oper.mk _ (.load 5 _) _ _ _ _ :: _) _ _)); refine wpl_load1 hE 1 rfl rfl rfl rfl (by simp [go_sem]) rfl ?_)
            | ((with_reducible (show Go.wpList _ _ _ (Go.Oper.mk _ (.load 45 _) _ _ _ _ :: _) _ _)); refine wpl_loadW hE 1 rfl rfl rfl rfl Try.isAgg45 Try.sizeOf45 (xs := [.int .u8 x.toNat, .string ⟨#[]⟩, .slice ao ks.length c]) rfl ?_)
            | (go_at_call 64; have H := rMay_any (u := x) (data := ([] : List UInt8)) (ks := ks) Hgk.out (by have := Hlk.out; omega) hE (fun W hW => reads_row hW 2 rfl); rw [Hm.out] at H; refine H.mono ?_; clear H hE; rintro e w6 ⟨v, rfl, rfl, hE6⟩)
            | ((with_reducible (show Go.wpList _ _ _ (Go.Oper.mk _ (.load 45 _) _ _ _ _ :: _) _ _)); refine wpl_loadW hE6 1 rfl rfl rfl rfl Try.isAgg45 Try.sizeOf45 (xs := [.int .u8 x.toNat, .string ⟨#[]⟩, .slice ao ks.length c]) rfl ?_)
            | (go_at_call 65; have H := rPut_yes (u := x) (data := ([] : List UInt8)) (ks := ks) Hgk.out Hm.out hE6 (fun W hW => reads_row hW 2 rfl); rw [Hpp.out] at H; refine H.mono ?_; clear H hE6; rintro e w6 ⟨v, rfl, rfl, hE7⟩)
            | ((with_reducible (show Go.wpList _ _ _ (Go.Oper.mk _ (.load 45 _) _ _ _ _ :: _) _ _)); refine wpl_loadW hE7 1 rfl rfl rfl rfl Try.isAgg45 Try.sizeOf45 (xs := [.int .u8 x.toNat, .string ⟨#[]⟩, .slice ao ks.length c]) rfl ?_)
            | (refine wpl_storeW hE7 3 rfl rfl rfl (xs := [.int .u8 x.toNat, .string ⟨#[]⟩, .slice ao ks.length c]) rfl rfl Try.sizeOf45 rfl (by simp [Value.oneCell']) rfl ?_; clear hE7; intro w hE8; simp only [List.set_cons_zero, List.set_cons_succ] at hE8))
          refine bodyPost_ret (results_cell2 rfl hE8 3 rfl rfl Try.isAgg45 Try.sizeOf45 rfl rfl) rfl ?_
          exact ⟨_, rfl, ao, c, by rw [R1.out, R2.out, P1.out]; rfl, by rw [R1.out, P1.out]; exact (hE8.tail.tail).erase 1⟩

theorem rTakeC_any {bs : List UInt8} (hb : bs.length ≤ 1000000) {l : List HProp} {w : World} (hE : Ent l w) :
    Calls Try.prog 19 #[.string ⟨bs.toArray⟩] w (Ret fun v w' => ∃ ao c, v = .tuple #[.agg #[.int .u8 (resC bs).kind.toNat, .string ⟨(resC bs).data.toArray⟩, .slice ao (resC bs).kids.length c], .int .i64 (errC bs)] ∧ Ent (rowRK ao c (resC bs).kids :: l) w') := by
  rcases bs with _ | ⟨x, r⟩
  · exact rTake_nil hE
  · cases h1 : ((x.toNat : Int) == 1) with
    | true =>
      have e := rTake_one hb h1 hE
      exact e
    | false => exact rTake_two hb h1 hE
end Go.Proofs.Ytohdljcpaogokaa
