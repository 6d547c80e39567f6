/-
  The stage's theorem of the disk: the walk of its function.
-/
import Derived.Test.YtpchnmcofkffiaaKp1
import Derived.Test.YtpchnmcofkffiaaDk8
import Derived.Test.YtpchnmcofkffiaaDw4
import Derived.Deep.DeepCutAuto
import Derived.Deep.CutBlock
import Derived.BigQuiet
namespace Go.Proofs.Ytpchnmcofkffiaa
open Go.RowKit Go.SL

abbrev rowMx (n bm : Nat) (hs : List Value) : HProp := row 58 1 (.slice (some ⟨bm, 0, none⟩) n n) n hs
abbrev rowNx (n bn : Nat) (vs : List Value) : HProp := row 9 1 (.slice (some ⟨bn, 0, none⟩) n n) n vs

def nilS : Value := .slice none 0 0
def emptyV : Value := .string ⟨#[]⟩
def full0 : Value := .string ⟨(fullSec 0).toArray⟩

def KInit (n p bm bn : Nat) (l : List HProp) (i : Value) (wr : World) : Prop :=
  ∃ (k : Nat) (ms : List MRow), k ≤ n ∧ i = .int .i64 k ∧ ms.length = k ∧ (∀ m ∈ ms, m.xs = [fullSec 0]) ∧
    Ent (disk p (DS.new n) :: rowMx n bm (ms.map MRow.v ++ List.replicate (n - k) nilS) :: rowNx n bn (List.replicate k full0 ++ List.replicate (n - k) emptyV) :: (ms.map MRow.piece ++ l)) wr

def KRel (xs : List DAct) (n p bm bn : Nat) (l : List HProp) (i : Value) (wr : World) : Prop :=
  ∃ (k : Nat) (s : DS) (ms : List MRow) (now : List (List UInt8)), k ≤ xs.length ∧ i = .int .i64 k ∧ s.good ∧ s.on.length = n ∧ s.wait.length ≤ k ∧ DKeeps s (ms.map MRow.xs) now ∧ (∀ m ∈ ms, m.xs.length ≤ k + 1) ∧
    Ent (disk p s :: rowMx n bm (ms.map MRow.v) :: rowNx n bn (now.map strv) :: (ms.map MRow.piece ++ l)) wr

/-- behind the act -/
def KMidRel (was : Bool) (n p bm bn k : Nat) (l : List HProp) (wr : World) : Prop :=
  ∃ (s : DS) (ms : List MRow) (now : List (List UInt8)), s.good ∧ s.on.length = n ∧ s.wait.length ≤ k + 1 ∧ KMid was s (ms.map MRow.xs) now ∧ (∀ m ∈ ms, m.xs.length ≤ k + 2) ∧
    Ent (disk p s :: rowMx n bm (ms.map MRow.v) :: rowNx n bn (now.map strv) :: (ms.map MRow.piece ++ l)) wr

/-- in the flush's loop -/
def KFlush (n p bm bn k : Nat) (s : DS) (now : List (List UInt8)) (l : List HProp) (i : Value) (wr : World) : Prop :=
  ∃ (j : Nat) (ms : List MRow), j ≤ n ∧ i = .int .i64 j ∧ ms.length = n ∧ (∀ t, t < j → (ms.map MRow.xs).getD t [] = [now.getD t []]) ∧ (∀ m ∈ ms, m.xs.length ≤ k + 2) ∧
    Ent (disk p s :: rowMx n bm (ms.map MRow.v) :: rowNx n bn (now.map strv) :: (ms.map MRow.piece ++ l)) wr

/-- in the look at the disk -/
def KLook (died : Bool) (n p bm bn k : Nat) (s : DS) (l : List HProp) (i : Value) (wr : World) : Prop :=
  ∃ (j : Nat) (ms : List MRow) (now : List (List UInt8)), j ≤ n ∧ i = .int .i64 j ∧ ms.length = n ∧ now.length = n ∧ (∀ t, t < n → s.on.getD t [] ∈ (ms.map MRow.xs).getD t []) ∧ (died = false → DKeeps s (ms.map MRow.xs) now) ∧ (died = true → ∀ t, t < j → now.getD t [] = s.on.getD t []) ∧ (∀ m ∈ ms, m.xs.length ≤ k + 2) ∧
    Ent (disk p s :: rowMx n bm (ms.map MRow.v) :: rowNx n bn (now.map strv) :: (ms.map MRow.piece ++ l)) wr

/-- in the search of a text among those that a sector may hold -/
def KFind (xs : List (List UInt8)) (d0 : List UInt8) (L : List HProp) (b j : Value) (wr : World) : Prop :=
  ∃ (t : Nat) (f : Bool), t ≤ xs.length ∧ j = .int .i64 t ∧ b = .bool f ∧ (∀ u, u < t → xs.getD u [] = d0 → f = true) ∧ Ent L wr

theorem KInit.start {xs : List DAct} {n p bm bn : Nat} {l : List HProp} {ms : List MRow} {wr : World} (hn : n ≤ 4096) (hl : ms.length = n) (hx : ∀ m ∈ ms, m.xs = [fullSec 0])
    (hE : Ent (disk p (DS.new n) :: rowMx n bm (ms.map MRow.v ++ List.replicate (n - n) nilS) :: rowNx n bn (List.replicate n full0 ++ List.replicate (n - n) emptyV) :: (ms.map MRow.piece ++ l)) wr) : KRel xs n p bm bn l (.int .i64 0) wr := by
  refine ⟨0, DS.new n, ms, List.replicate n (fullSec 0), Nat.zero_le _, rfl, DS.good_new n hn, by simp [DS.new], by simp [DS.new], ?_, fun m hm => by rw [hx m hm]; simp, ?_⟩
  · have e : ms.map MRow.xs = List.replicate n [fullSec 0] := by
      rw [List.eq_replicate_iff]
      refine ⟨by simpa using hl, ?_⟩
      intro b hb
      obtain ⟨m, hm, rfl⟩ := List.mem_map.1 hb
      exact hx m hm
    rw [e]
    exact DKeeps.new n
  · simp only [Nat.sub_self, List.replicate_zero, List.append_nil] at hE
    rw [List.map_replicate]
    exact hE

set_option maxRecDepth 100000 in
set_option maxHeartbeats 4000000 in
theorem Keeps_in {xs : List DAct} (hgood : ∀ x ∈ xs, x.good) (hgr : great4V xs = false) {n : Nat} (hn1 : 1 ≤ n) (hn2 : n ≤ 30) {l : List HProp} {w : World} (hE : Ent l w) {ao : Option Addr} {c : Nat} (hk : Knows l (reads (.slice ao xs.length c) xs.length (actCells xs))) :
    Calls Try.prog 6 #[.int .u8 n, .slice ao xs.length c] w (Ret fun v w' => v = .bool true ∧ Ent l w') := by
  have h80 : xs.length ≤ 80 := by
    simp only [great4V, Bool.or_eq_false_iff, decide_eq_false_iff_not] at hgr
    omega
  have Hgr := SL.hid hgr
  have Hgood := SL.hid hgood
  have Hk := SL.hid hk
  clear hgr hgood hk
  go_enter Try.func6, Try.ntmps6
  go_wp2_with (first
    | go_skip
    | (go_at_call 30; refine (great4_is Hgr.out (Hk.out _ hE)).mono ?_; rintro e w2 ⟨rfl, rfl⟩)
    | (go_at_call 32; have H := New_in hn1 (by omega) hE; refine H.mono ?_; clear H hE; rintro e w2 ⟨v, rfl, p, rfl, hE⟩)
    | (with_reducible (show Go.wpList _ _ _ (Go.Oper.mk _ (.makeSlice _ _ _) _ _ _ _ :: _) _ _); refine wpl_make hE rfl rfl Try.underlying57 (zs := [nilS]) (size := 1) (bytes := 24) (by kernel_rfl) rfl (by decide) n rfl rfl (by omega) (by omega) ?_; clear hE; intro bm w3 hE1)
    | (with_reducible (show Go.wpList _ _ _ (Go.Oper.mk _ (.makeSlice _ _ _) _ _ _ _ :: _) _ _); refine wpl_make hE1 rfl rfl Try.underlying58 (zs := [emptyV]) (size := 1) (bytes := 16) (by kernel_rfl) rfl (by decide) n rfl rfl (by omega) (by omega) ?_; clear hE1; intro bn w3 hE))
  go_loopw [10] (fun i wr => KInit n p bm bn l i wr) (fun i _ => n - (intOf i).toNat)
  case atStart =>
    refine ⟨0, [], Nat.zero_le _, rfl, rfl, by simp, ?_⟩
    have e1 : (List.replicate n [nilS]).flatten = List.replicate n nilS := by simp
    have e2 : (List.replicate n [emptyV]).flatten = List.replicate n emptyV := by simp
    rw [e1, e2] at hE
    exact (hE.front 1 rfl).front 2 rfl
  case round =>
    clear hE
    obtain ⟨k, ms, hk, rfl, hm, hms, hE⟩ := hrel
    have Hm := SL.hid hm
    have Hms := SL.hid hms
    clear hm hms
    by_cases hlt : k < n
    · go_wp2_with (first
        | go_skip
        | (go_at_call 33; have H := Full_any 0 hE; refine H.mono ?_; clear H hE; rintro e w2 ⟨v, rfl, g, rfl, hE1⟩; have hcv := conv_full 0 hE1 rfl)
        | (with_reducible (show Go.wpList _ _ _ (Go.Oper.mk _ (.store _ _ _) _ _ _ _ :: _) _ _); refine wpl_storeRow hE1.tail 2 (v := full0) rfl rfl rfl rfl rfl Try.sizeOf9 (ys := [full0]) rfl rfl (by simp [full0, Value.oneCell']) (by omega) ?_; clear hE1 hcv; intro w5 hE2; simp only [List.set_cons_succ, List.set_cons_zero] at hE2; rw [splice_repl _ _ hlt] at hE2; have b1 := hE2.rowCell 2 rfl (j := k) (u := .string ⟨(fullSec 0).toArray⟩) (by rw [List.getElem?_append_left (by simp)]; simp [full0]))
        | (with_reducible (show Go.wpList _ _ _ (Go.Oper.mk _ (.store _ _ _) _ _ _ _ :: _) _ _); refine wpl_storeRow (row_one (fullSec 0) hE2) 2 rfl rfl rfl rfl rfl Try.sizeOf58 (ys := [MRow.v ⟨some ⟨w5.heap.size, 0, none⟩, 1, [fullSec 0]⟩]) rfl rfl (by simp [MRow.v, Value.oneCell']) (by omega) ?_; clear hE2 b1; intro w6 hE3; simp only [List.set_cons_succ, List.set_cons_zero] at hE3; rw [splice_rows _ _ Hm.out hlt] at hE3; have hE := piece_add (F := [_, _]) _ hE3; clear hE3; simp only [List.cons_append, List.nil_append] at hE))
      go_roundw
      case rel =>
        refine ⟨k + 1, ms ++ [⟨some ⟨w5.heap.size, 0, none⟩, 1, [fullSec 0]⟩], hlt, by simp, by simp [Hm.out], ?_, hE⟩
        intro m hm
        simp only [List.mem_append, List.mem_singleton] at hm
        rcases hm with hm | rfl
        · exact Hms.out m hm
        · rfl
      case measure => simp [intOf]; omega
    · obtain rfl : n = k := by omega
      go_wp2_with (first | go_skip)
      go_loopw [11] (fun i wr => KRel xs n p bm bn l i wr) (fun i _ => xs.length - (intOf i).toNat)
      case atStart => exact KInit.start (by omega) Hm.out Hms.out hE
      case round =>
        clear hE Hm Hms ms
        obtain ⟨k, s, ms, now, hkl, rfl, hg, hon, hw, hK, hml, hE⟩ := hrel
        have HK := SL.hid hK
        have Hon := SL.hid hon
        have Hml := SL.hid hml
        clear hK hon hml
        by_cases hkx : k < xs.length
        · obtain ⟨ab, off, rfl, hc⟩ := reads_form (Hk.out _ hE.tail.tail.tail.drop) (by omega) (by rw [actCells, flatMap_len _ 5 DAct.cells_len]; omega)
          clear hc
          rcases hx : xs[k] with ⟨xd, xn, xk, xc, xh⟩
          have hxg := Hgood.out xs[k] (List.getElem_mem hkx)
          rw [hx] at hxg
          have H5 : RowKit.Hid (∀ w, Ent l w → w.cell? ⟨ab, off + k * 5, none⟩ = some (.int .u8 xd.toNat) ∧ w.cell? ⟨ab, off + k * 5 + 1, none⟩ = some (.int .i64 xn) ∧ w.cell? ⟨ab, off + k * 5 + 2, none⟩ = some (.string xk) ∧ w.cell? ⟨ab, off + k * 5 + 3, none⟩ = some (.int .u8 xc.toNat) ∧ w.cell? ⟨ab, off + k * 5 + 4, none⟩ = some (.bool xh)) := SL.hid (fun w hE => act5k Hk.out hkx hx hE)
          clear hx
          generalize hwas : (!s.dead) = was
          have Hwas := SL.hid hwas
          have Hmn := SL.hid (show ms.length = n by have := HK.out.mlen; rw [Hon.out] at this; simpa using this)
          have Hnn := SL.hid (show now.length = n by have := HK.out.nlen; rw [Hon.out] at this; exact this)
          clear hwas
          obtain ⟨a0, a1, a2, a3, a4⟩ := H5.out _ hE.tail.tail.tail.drop
          go_upto_block 4 with (first
            | go_skip
            | (with_reducible (show Go.wpList _ _ _ (Go.Oper.mk _ (.alloc _) _ _ _ _ :: _) _ _); refine wpl_allocN hE rfl rfl (n := 5) (by kernel_rfl) ?_; clear hE a0 a1 a2 a3 a4; intro bx cs w1 hq hE)
            | (with_reducible (show Go.wpList _ _ _ (Go.Oper.mk _ (.store _ _ _) _ _ _ _ :: _) _ _); refine wpl_storeN hE 0 rfl rfl rfl rfl rfl Try.sizeOf61 rfl (by simp [Value.oneCell']) hq ?_; clear hE; intro w3 hE; simp only [List.set_cons_zero] at hE; clear hq)
            | (go_at_call 34; go_loud (refine (Alive_any (hE.front 1 rfl)).mono ?_; rintro e w2 ⟨rfl, rfl⟩; rw [Hwas.out]))
            | (with_reducible (show Go.wpList _ _ _ (Go.Oper.mk _ (.load _ _) _ _ _ _ :: _) _ _); first | (refine wpl_load1 hE 0 rfl rfl rfl rfl (by simp [go_sem]) rfl ?_) | (refine wpl_load1 hE 1 rfl rfl rfl rfl (by simp [go_sem]) rfl ?_) | (refine wpl_load1 hE 2 rfl rfl rfl rfl (by simp [go_sem]) rfl ?_) | (refine wpl_load1 hE 3 rfl rfl rfl rfl (by simp [go_sem]) rfl ?_) | (refine wpl_load1 hE 4 rfl rfl rfl rfl (by simp [go_sem]) rfl ?_) | (refine wpl_load1 hE 5 rfl rfl rfl rfl (by simp [go_sem]) rfl ?_)))
          simp only [Act.put, List.setIfInBounds_toArray, List.set_cons_succ, List.set_cons_zero, List.getElem_toArray, List.getElem_cons_zero]
          go_cut [14] (fun _ wx => KMidRel was n p bm bn k l wx)
          case first => as_aux_lemma =>
            have hgd := hg.does ⟨xd, xn, xk, xc, xh⟩ hxg
            have hod := on_does s ⟨xd, xn, xk, xc, xh⟩
            have hol : (s.does ⟨xd, xn, xk, xc, xh⟩).on.length = n := by rw [hod.1, Hon.out]
            have how : (s.does ⟨xd, xn, xk, xc, xh⟩).wait.length ≤ k + 1 := by omega
            clear hod
            unfold DS.does at hgd hol how
            dsimp only at hgd hol how
            by_cases e0 : xd = 0
            · rw [if_pos e0] at hgd hol how
              have Hgd := SL.hid hgd
              have Hol := SL.hid hol
              have Howl := SL.hid how
              clear hgd hol how
              have d0 : ((xd.toNat : Int) == 0) = true := u8_is e0
              clear e0
              have KF := SL.hid (Hwas.out ▸ KMid.flush HK.out)
              by_cases hf : s.flushE = 0
              · have hfb : (s.flushE == 0) = true := by rw [hf]; rfl
                have KF2 : RowKit.Hid (KMid was s.flushS (now.map fun x => [x]) now) := SL.hid (by have := KF.out; unfold mayFlush at this; rwa [if_pos hf] at this)
                clear hf KF
                go_wp2_with (first
                  | go_skip
                  | (with_reducible (show Go.wpList _ _ _ (Go.Oper.mk _ (.load _ _) _ _ _ _ :: _) _ _); first | (refine wpl_load1 hE 0 rfl rfl rfl rfl (by simp [go_sem]) rfl ?_) | (refine wpl_load1 hE 1 rfl rfl rfl rfl (by simp [go_sem]) rfl ?_) | (refine wpl_load1 hE 2 rfl rfl rfl rfl (by simp [go_sem]) rfl ?_) | (refine wpl_load1 hE 3 rfl rfl rfl rfl (by simp [go_sem]) rfl ?_) | (refine wpl_load1 hE 4 rfl rfl rfl rfl (by simp [go_sem]) rfl ?_) | (refine wpl_load1 hE 5 rfl rfl rfl rfl (by simp [go_sem]) rfl ?_))
                  | (go_at_call 35; have H := Flush_any hg hE.tail; refine H.mono ?_; clear H hE; rintro e w4 ⟨v, rfl, rfl, hE1⟩))
                go_loopw [15] (fun i wr => KFlush n p bm bn k s.flushS now l i wr) (fun i _ => n - (intOf i).toNat)
                case atStart => exact ⟨0, ms, Nat.zero_le _, rfl, Hmn.out, fun t ht => by omega, fun m hm => Nat.le_succ_of_le (Hml.out m hm), hE1⟩
                case round =>
                  clear hE1 Hml Hmn HK ms
                  obtain ⟨j, ms, hj, rfl, hmn, hm1, hml2, hE⟩ := hrel
                  have Hmn := SL.hid hmn
                  have Hm1 := SL.hid hm1
                  have Hml2 := SL.hid hml2
                  clear hmn hm1 hml2
                  by_cases hjl : j < n
                  · have b2 := hE.rowCell 2 rfl (strs_cell (k := j) (by rw [Hnn.out]; exact hjl))
                    generalize hd : now.getD j [] = d0 at b2
                    have Hd := SL.hid hd
                    clear hd
                    have hjm := SL.hid (show j < ms.length by rw [Hmn.out]; exact hjl)
                    go_wp2_with (first
                      | go_skip
                      | (with_reducible (show Go.wpList _ _ _ (Go.Oper.mk _ (.store _ _ _) _ _ _ _ :: _) _ _); refine wpl_storeRow (row_one d0 hE) 2 rfl rfl rfl rfl rfl Try.sizeOf58 (ys := [MRow.v ⟨some ⟨wr.heap.size, 0, none⟩, 1, [d0]⟩]) rfl rfl (by simp [MRow.v, Value.oneCell']) (by omega) ?_; clear b2 hE; intro w6 hE3; simp only [List.set_cons_succ, List.set_cons_zero] at hE3; rw [splice_mrow _ hjm.out] at hE3; have hE4 := piece_new (F := [_, _]) hjm.out _ hE3; clear hE3))
                    go_roundw
                    case rel =>
                      refine ⟨j + 1, ms.set j ⟨some ⟨wr.heap.size, 0, none⟩, 1, [d0]⟩, hjl, by simp, by rw [List.length_set]; exact Hmn.out, ?_, all_len Hml2.out (by simp), hE4⟩
                      intro t ht
                      rw [List.map_set, getD_setM _ _ _ _ (by rw [List.length_map, Hmn.out]; omega)]
                      split
                      · rename_i e
                        rw [← e, Hd.out]
                      · exact Hm1.out t (by omega)
                    case measure => simp [intOf]; omega
                  · obtain rfl : j = n := by omega
                    go_wp2_with (first | go_skip)
                    go_meet
                    case rel =>
                      have e : ms.map MRow.xs = now.map fun x => [x] := by
                        refine List.ext_getElem (by rw [List.length_map, List.length_map, Hmn.out, Hnn.out]) ?_
                        intro t h1 h2
                        have ht : t < now.length := by simpa using h2
                        have := Hm1.out t (by rw [← Hnn.out]; exact ht)
                        rw [may_at (by simpa using h1)] at this
                        simpa [List.getD_eq_getElem?_getD, ht] using this
                      exact ⟨_, ms, now, Hgd.out, Hol.out, Howl.out, e ▸ KF2.out, Hml2.out, hE⟩
              · have hfb : (s.flushE == 0) = false := by simpa using hf
                have KF2 : RowKit.Hid (KMid was s.flushS (ms.map MRow.xs) now) := SL.hid (by have := KF.out; unfold mayFlush at this; rwa [if_neg hf] at this)
                clear hf KF
                go_wp2_with (first
                  | go_skip
                  | (with_reducible (show Go.wpList _ _ _ (Go.Oper.mk _ (.load _ _) _ _ _ _ :: _) _ _); first | (refine wpl_load1 hE 0 rfl rfl rfl rfl (by simp [go_sem]) rfl ?_) | (refine wpl_load1 hE 1 rfl rfl rfl rfl (by simp [go_sem]) rfl ?_) | (refine wpl_load1 hE 2 rfl rfl rfl rfl (by simp [go_sem]) rfl ?_) | (refine wpl_load1 hE 3 rfl rfl rfl rfl (by simp [go_sem]) rfl ?_) | (refine wpl_load1 hE 4 rfl rfl rfl rfl (by simp [go_sem]) rfl ?_) | (refine wpl_load1 hE 5 rfl rfl rfl rfl (by simp [go_sem]) rfl ?_))
                  | (go_at_call 35; have H := Flush_any hg hE.tail; refine H.mono ?_; clear H hE; rintro e w4 ⟨v, rfl, rfl, hE1⟩))
                go_meet
                case rel => exact ⟨_, ms, now, Hgd.out, Hol.out, Howl.out, KF2.out, fun m hm => Nat.le_succ_of_le (Hml.out m hm), hE1⟩
            · rw [if_neg e0] at hgd hol how
              have d0 : ((xd.toNat : Int) == 0) = false := u8_isnt e0
              clear e0
              by_cases e1 : xd = 1
              · rw [if_pos e1] at hgd hol how
                have Hgd := SL.hid hgd
                have Hol := SL.hid hol
                have Howl := SL.hid how
                clear hgd hol how
                have d1 : ((xd.toNat : Int) == 1) = true := u8_is e1
                clear e1
                have KF := SL.hid (Hwas.out ▸ KMid.fuse HK.out xn xk)
                go_wp2_with (first
                  | go_skip
                  | (with_reducible (show Go.wpList _ _ _ (Go.Oper.mk _ (.load _ _) _ _ _ _ :: _) _ _); first | (refine wpl_load1 hE 0 rfl rfl rfl rfl (by simp [go_sem]) rfl ?_) | (refine wpl_load1 hE 1 rfl rfl rfl rfl (by simp [go_sem]) rfl ?_) | (refine wpl_load1 hE 2 rfl rfl rfl rfl (by simp [go_sem]) rfl ?_) | (refine wpl_load1 hE 3 rfl rfl rfl rfl (by simp [go_sem]) rfl ?_) | (refine wpl_load1 hE 4 rfl rfl rfl rfl (by simp [go_sem]) rfl ?_) | (refine wpl_load1 hE 5 rfl rfl rfl rfl (by simp [go_sem]) rfl ?_))
                  | (go_at_call 36; have H := Fuse_any xn xk hE.tail; refine H.mono ?_; clear H hE; rintro e w4 ⟨v, rfl, rfl, hE1⟩))
                go_meet
                case rel => exact ⟨_, ms, now, Hgd.out, Hol.out, Howl.out, KF.out, fun m hm => Nat.le_succ_of_le (Hml.out m hm), hE1⟩
              · rw [if_neg e1] at hgd hol how
                have d1 : ((xd.toNat : Int) == 1) = false := u8_isnt e1
                clear e1
                by_cases e2 : xd = 2
                · rw [if_pos e2] at hgd hol how
                  have Hgd := SL.hid hgd
                  have Hol := SL.hid hol
                  have Howl := SL.hid how
                  clear hgd hol how
                  have d2 : ((xd.toNat : Int) == 2) = true := u8_is e2
                  clear e2
                  have KF := SL.hid (Hwas.out ▸ KMid.crash HK.out xk)
                  go_wp2_with (first
                    | go_skip
                    | (with_reducible (show Go.wpList _ _ _ (Go.Oper.mk _ (.load _ _) _ _ _ _ :: _) _ _); first | (refine wpl_load1 hE 0 rfl rfl rfl rfl (by simp [go_sem]) rfl ?_) | (refine wpl_load1 hE 1 rfl rfl rfl rfl (by simp [go_sem]) rfl ?_) | (refine wpl_load1 hE 2 rfl rfl rfl rfl (by simp [go_sem]) rfl ?_) | (refine wpl_load1 hE 3 rfl rfl rfl rfl (by simp [go_sem]) rfl ?_) | (refine wpl_load1 hE 4 rfl rfl rfl rfl (by simp [go_sem]) rfl ?_) | (refine wpl_load1 hE 5 rfl rfl rfl rfl (by simp [go_sem]) rfl ?_))
                    | (go_at_call 37; have H := Crash_any xk hg hE.tail; refine H.mono ?_; clear H hE; rintro e w4 ⟨v, rfl, rfl, hE1⟩))
                  go_meet
                  case rel => exact ⟨_, ms, now, Hgd.out, Hol.out, Howl.out, KF.out, fun m hm => Nat.le_succ_of_le (Hml.out m hm), hE1⟩
                · rw [if_neg e2] at hgd hol how
                  have d2 : ((xd.toNat : Int) == 2) = false := u8_isnt e2
                  clear e2
                  by_cases e3 : xd = 3
                  · rw [if_pos e3] at hgd hol how
                    have Hgd := SL.hid hgd
                    have Hol := SL.hid hol
                    have Howl := SL.hid how
                    clear hgd hol how
                    have d3 : ((xd.toNat : Int) == 3) = true := u8_is e3
                    clear e3
                    have KF := SL.hid (Hwas.out ▸ KMid.start HK.out)
                    go_wp2_with (first
                      | go_skip
                      | (with_reducible (show Go.wpList _ _ _ (Go.Oper.mk _ (.load _ _) _ _ _ _ :: _) _ _); first | (refine wpl_load1 hE 0 rfl rfl rfl rfl (by simp [go_sem]) rfl ?_) | (refine wpl_load1 hE 1 rfl rfl rfl rfl (by simp [go_sem]) rfl ?_) | (refine wpl_load1 hE 2 rfl rfl rfl rfl (by simp [go_sem]) rfl ?_) | (refine wpl_load1 hE 3 rfl rfl rfl rfl (by simp [go_sem]) rfl ?_) | (refine wpl_load1 hE 4 rfl rfl rfl rfl (by simp [go_sem]) rfl ?_) | (refine wpl_load1 hE 5 rfl rfl rfl rfl (by simp [go_sem]) rfl ?_))
                      | (go_at_call 38; have H := Start_any hE.tail; refine H.mono ?_; clear H hE; rintro e w4 ⟨v, rfl, rfl, hE1⟩))
                    go_meet
                    case rel => exact ⟨_, ms, now, Hgd.out, Hol.out, Howl.out, KF.out, fun m hm => Nat.le_succ_of_le (Hml.out m hm), hE1⟩
                  · rw [if_neg e3] at hgd hol how
                    have d3 : ((xd.toNat : Int) == 3) = false := u8_isnt e3
                    clear e3
                    by_cases e4 : xd = 4
                    · rw [if_pos e4] at hgd hol how
                      have Hgd := SL.hid hgd
                      have Hol := SL.hid hol
                      have Howl := SL.hid how
                      clear hgd hol how
                      have d4 : ((xd.toNat : Int) == 4) = true := u8_is e4
                      clear e4
                      have KF := SL.hid (Hwas.out ▸ KMid.read HK.out)
                      by_cases hr : s.readE xn = 0
                      · as_aux_lemma =>
                        obtain ⟨r0, r1, r2⟩ := HK.out.reads hr
                        rw [Hon.out] at r1
                        obtain ⟨m, rfl⟩ : ∃ m : Nat, xn = m := ⟨xn.toNat, by omega⟩
                        have hm : m < n := by omega
                        rw [Int.toNat_natCast] at r2
                        have HR := SL.hid (And.intro hr r2)
                        have hst := strs_cell (now := now) (k := m) (by rw [Hnn.out]; exact hm)
                        generalize hd0 : now.getD m [] = d0 at hst
                        have Hd0 := SL.hid hd0
                        have Hst := SL.hid hst
                        clear hr r0 r1 r2 hd0 hst
                        go_wp2_with (first
                          | go_skip
                          | (with_reducible (show Go.wpList _ _ _ (Go.Oper.mk _ (.load _ _) _ _ _ _ :: _) _ _); first | (refine wpl_load1 hE 0 rfl rfl rfl rfl (by simp [go_sem]) rfl ?_) | (refine wpl_load1 hE 1 rfl rfl rfl rfl (by simp [go_sem]) rfl ?_) | (refine wpl_load1 hE 2 rfl rfl rfl rfl (by simp [go_sem]) rfl ?_) | (refine wpl_load1 hE 3 rfl rfl rfl rfl (by simp [go_sem]) rfl ?_) | (refine wpl_load1 hE 4 rfl rfl rfl rfl (by simp [go_sem]) rfl ?_) | (refine wpl_load1 hE 5 rfl rfl rfl rfl (by simp [go_sem]) rfl ?_))
                          | (go_at_call 39; have H := Read_uni (m : Int) hg (hE.front 1 rfl); rw [HR.out.2, HR.out.1, Hd0.out] at H; refine H.mono ?_; clear H hE; rintro e w4 ⟨v, rfl, ar, nr, cr, rfl, hn, hE1⟩; have Hn := SL.hid hn; clear hn; simp only [List.eraseIdx_cons_succ, List.eraseIdx_cons_zero] at hE1))
                        have hED := hE1.drew
                        refine wp_region_held_drew (S := (fun w' => (w'.cell? ⟨bx, 0, none⟩ = some (.int .u8 xd.toNat) ∧ w'.cell? ⟨bx, 1, none⟩ = some (.int .i64 m) ∧ w'.cell? ⟨bx, 2, none⟩ = some (.string xk) ∧ w'.cell? ⟨bx, 3, none⟩ = some (.int .u8 xc.toNat) ∧ w'.cell? ⟨bx, 4, none⟩ = some (.bool xh)) ∧ w'.cell? ⟨bn, m, none⟩ = some (.string ⟨d0.toArray⟩) ∧ (convert 33 9 (.slice ar nr cr)).run Try.prog w' = .ok (.string ⟨d0.toArray⟩) w')) (by kernel_rfl) ⟨act5 hED 2 rfl, hED.rowCell 4 rfl Hst.out, conv_view (hED.views 0 rfl) Hn.out⟩ (fun hS => ?_)
                        refine wpAnyH_take (i := 0) (oi := { dst := some 160, op := Go.Op.move (Go.Operand.tmp 17), type := 34, pos := "law.go:179", after := #[], guard := none }) (v := ?_) rfl (by kernel_rfl) (by kernel_rfl) (by kernel_rfl) (fun _ _ _ h => h) (Or.inl ⟨by rfl, ?_⟩) hS ?_
                        rotate_left
                        · (intro w hSw; (try dsimp only at hSw); go_simp; (try with_reducible rfl))
                        try simp only [Act.put, List.setIfInBounds_toArray, List.set_cons_zero, List.set_cons_succ]
                        refine wpAnyH_take (i := 1) (oi := { dst := some 161, op := Go.Op.binOp Go.BinOp.eql 34 (Go.Operand.tmp 160) (Go.Operand.const (Go.Value.int Go.IntKind.i64 0)) 34, type := 4, pos := "law.go:179", after := #[{ on := 0, ground := Go.Ground.data }], guard := none }) (v := ?_) rfl (by kernel_rfl) (by kernel_rfl) (by kernel_rfl) (fun _ _ _ h => h) (Or.inl ⟨by rfl, ?_⟩) hS ?_
                        rotate_left
                        · (intro w hSw; (try dsimp only at hSw); go_simp; (try with_reducible rfl))
                        try simp only [Act.put, List.setIfInBounds_toArray, List.set_cons_zero, List.set_cons_succ]
                        refine wpAnyH_take (i := 2) (oi := { dst := some 162, op := Go.Op.move (Go.Operand.tmp 161), type := 4, pos := "law.go:179", after := #[{ on := 1, ground := Go.Ground.data }], guard := none }) (v := ?_) rfl (by kernel_rfl) (by kernel_rfl) (by kernel_rfl) (fun _ _ _ h => h) (Or.inl ⟨by rfl, ?_⟩) hS ?_
                        rotate_left
                        · (intro w hSw; (try dsimp only at hSw); go_simp; (try with_reducible rfl))
                        try simp only [Act.put, List.setIfInBounds_toArray, List.set_cons_zero, List.set_cons_succ]
                        refine wpAnyH_take (i := 3) (oi := { dst := some 163, op := Go.Op.move (Go.Operand.tmp 16), type := 33, pos := "law.go:179", after := #[{ on := 2, ground := Go.Ground.guard }], guard := some (2, true) }) (v := ?_) rfl (by kernel_rfl) (by kernel_rfl) (by kernel_rfl) (fun _ _ _ h => h) (Or.inl ⟨by rfl, ?_⟩) hS ?_
                        rotate_left
                        · (intro w hSw; (try dsimp only at hSw); go_simp; (try with_reducible rfl))
                        try simp only [Act.put, List.setIfInBounds_toArray, List.set_cons_zero, List.set_cons_succ]
                        refine wpAnyH_take (i := 4) (oi := { dst := some 164, op := Go.Op.convert 33 9 (Go.Operand.tmp 163), type := 9, pos := "law.go:179", after := #[{ on := 3, ground := Go.Ground.data }, { on := 2, ground := Go.Ground.guard }], guard := some (2, true) }) (v := ?_) rfl (by kernel_rfl) (by kernel_rfl) (by kernel_rfl) (fun _ _ _ h => h) (Or.inl ⟨by rfl, ?_⟩) hS ?_
                        rotate_left
                        · (intro w hSw; (try dsimp only at hSw); go_simp; (try with_reducible rfl))
                        try simp only [Act.put, List.setIfInBounds_toArray, List.set_cons_zero, List.set_cons_succ]
                        refine wpAnyH_take (i := 5) (oi := { dst := some 165, op := Go.Op.move (Go.Operand.tmp 9), type := 58, pos := "law.go:179", after := #[{ on := 2, ground := Go.Ground.guard }], guard := some (2, true) }) (v := ?_) rfl (by kernel_rfl) (by kernel_rfl) (by kernel_rfl) (fun _ _ _ h => h) (Or.inl ⟨by rfl, ?_⟩) hS ?_
                        rotate_left
                        · (intro w hSw; (try dsimp only at hSw); go_simp; (try with_reducible rfl))
                        try simp only [Act.put, List.setIfInBounds_toArray, List.set_cons_zero, List.set_cons_succ]
                        refine wpAnyH_take (i := 6) (oi := { dst := some 166, op := Go.Op.fieldAddr 61 (Go.Operand.tmp 12) 1, type := 0, pos := "law.go:179", after := #[{ on := 2, ground := Go.Ground.guard }], guard := some (2, true) }) (v := ?_) rfl (by kernel_rfl) (by kernel_rfl) (by kernel_rfl) (fun _ _ _ h => h) (Or.inl ⟨by rfl, ?_⟩) hS ?_
                        rotate_left
                        · (intro w hSw; (try dsimp only at hSw); go_simp; (try with_reducible rfl))
                        try simp only [Act.put, List.setIfInBounds_toArray, List.set_cons_zero, List.set_cons_succ]
                        refine wpAnyH_take (i := 7) (oi := { dst := some 167, op := Go.Op.load 3 (Go.Operand.tmp 166), type := 3, pos := "law.go:179", after := #[{ on := 6, ground := Go.Ground.data }, { on := 2, ground := Go.Ground.guard }], guard := some (2, true) }) (v := ?_) rfl (by kernel_rfl) (by kernel_rfl) (by kernel_rfl) (fun _ _ _ h => h) (Or.inl ⟨by rfl, ?_⟩) hS ?_
                        rotate_left
                        · (intro w hSw; (try dsimp only at hSw); go_simp; (try with_reducible rfl))
                        try simp only [Act.put, List.setIfInBounds_toArray, List.set_cons_zero, List.set_cons_succ]
                        refine wpAnyH_take (i := 8) (oi := { dst := some 168, op := Go.Op.indexAddr 58 (Go.Operand.tmp 165) (Go.Operand.tmp 167), type := 0, pos := "law.go:179", after := #[{ on := 5, ground := Go.Ground.data }, { on := 7, ground := Go.Ground.data }, { on := 2, ground := Go.Ground.guard }], guard := some (2, true) }) (v := ?_) rfl (by kernel_rfl) (by kernel_rfl) (by kernel_rfl) (fun _ _ _ h => h) (Or.inl ⟨by rfl, ?_⟩) hS ?_
                        rotate_left
                        · (intro w hSw; (try dsimp only at hSw); go_simp; (try with_reducible rfl))
                        try simp only [Act.put, List.setIfInBounds_toArray, List.set_cons_zero, List.set_cons_succ]
                        refine wpAnyH_take (i := 9) (oi := { dst := some 169, op := Go.Op.load 9 (Go.Operand.tmp 168), type := 9, pos := "law.go:179", after := #[{ on := 8, ground := Go.Ground.data }, { on := 2, ground := Go.Ground.guard }], guard := some (2, true) }) (v := ?_) rfl (by kernel_rfl) (by kernel_rfl) (by kernel_rfl) (fun _ _ _ h => h) (Or.inl ⟨by rfl, ?_⟩) hS ?_
                        rotate_left
                        · (intro w hSw; (try dsimp only at hSw); go_simp; (try with_reducible rfl))
                        try simp only [Act.put, List.setIfInBounds_toArray, List.set_cons_zero, List.set_cons_succ]
                        refine wpAnyH_take (i := 10) (oi := { dst := some 170, op := Go.Op.binOp Go.BinOp.neq 9 (Go.Operand.tmp 164) (Go.Operand.tmp 169) 9, type := 4, pos := "law.go:179", after := #[{ on := 4, ground := Go.Ground.data }, { on := 9, ground := Go.Ground.data }, { on := 2, ground := Go.Ground.guard }], guard := some (2, true) }) (v := ?_) rfl (by kernel_rfl) (by kernel_rfl) (by kernel_rfl) (fun _ _ _ h => h) (Or.inl ⟨by rfl, ?_⟩) hS ?_
                        rotate_left
                        · (intro w hSw; (try dsimp only at hSw); go_simp; (try with_reducible rfl))
                        try simp only [Act.put, List.setIfInBounds_toArray, List.set_cons_zero, List.set_cons_succ]
                        refine wpAnyH_take (i := 11) (oi := { dst := some 171, op := Go.Op.pick (Go.Operand.tmp 162) (Go.Operand.tmp 170) (Go.Operand.const (Go.Value.bool false)), type := 4, pos := "law.go:179", after := #[{ on := 2, ground := Go.Ground.data }, { on := 10, ground := Go.Ground.data }], guard := none }) (v := ?_) rfl (by kernel_rfl) (by kernel_rfl) (by kernel_rfl) (fun _ _ _ h => h) (Or.inl ⟨by rfl, ?_⟩) hS ?_
                        rotate_left
                        · (intro w hSw; (try dsimp only at hSw); go_simp; (try with_reducible rfl))
                        try simp only [Act.put, List.setIfInBounds_toArray, List.set_cons_zero, List.set_cons_succ]
                        refine wpAnyH_done (by kernel_rfl) ?_ _
                        go_wp2_with (first | go_skip)
                        go_meet
                        case rel => exact ⟨_, ms, now, Hgd.out, Hol.out, Howl.out, KF.out, fun m hm => Nat.le_succ_of_le (Hml.out m hm), (hED.erase 2).tail⟩
                      · as_aux_lemma =>
                        have hfb : (s.readE xn == 0) = false := by simpa using hr
                        clear hr
                        go_wp2_with (first
                          | go_skip
                          | (with_reducible (show Go.wpList _ _ _ (Go.Oper.mk _ (.load _ _) _ _ _ _ :: _) _ _); first | (refine wpl_load1 hE 0 rfl rfl rfl rfl (by simp [go_sem]) rfl ?_) | (refine wpl_load1 hE 1 rfl rfl rfl rfl (by simp [go_sem]) rfl ?_) | (refine wpl_load1 hE 2 rfl rfl rfl rfl (by simp [go_sem]) rfl ?_) | (refine wpl_load1 hE 3 rfl rfl rfl rfl (by simp [go_sem]) rfl ?_) | (refine wpl_load1 hE 4 rfl rfl rfl rfl (by simp [go_sem]) rfl ?_) | (refine wpl_load1 hE 5 rfl rfl rfl rfl (by simp [go_sem]) rfl ?_))
                          | (go_at_call 39; have H := Read_uni xn hg (hE.front 1 rfl); refine H.mono ?_; clear H hE; rintro e w4 ⟨v, rfl, ar, nr, cr, rfl, hn, hE1⟩; simp only [List.eraseIdx_cons_succ, List.eraseIdx_cons_zero] at hE1; clear hn))
                        have hED := hE1.drew
                        refine wp_region_held_drew (S := (fun _ => True)) (by kernel_rfl) trivial (fun hS => ?_)
                        refine wpAnyH_take (i := 0) (oi := { dst := some 160, op := Go.Op.move (Go.Operand.tmp 17), type := 34, pos := "law.go:179", after := #[], guard := none }) (v := ?_) rfl (by kernel_rfl) (by kernel_rfl) (by kernel_rfl) (fun _ _ _ h => h) (Or.inl ⟨by rfl, ?_⟩) hS ?_
                        rotate_left
                        · (intro w hSw; (try dsimp only at hSw); go_simp; (try with_reducible rfl))
                        try simp only [Act.put, List.setIfInBounds_toArray, List.set_cons_zero, List.set_cons_succ]
                        refine wpAnyH_take (i := 1) (oi := { dst := some 161, op := Go.Op.binOp Go.BinOp.eql 34 (Go.Operand.tmp 160) (Go.Operand.const (Go.Value.int Go.IntKind.i64 0)) 34, type := 4, pos := "law.go:179", after := #[{ on := 0, ground := Go.Ground.data }], guard := none }) (v := ?_) rfl (by kernel_rfl) (by kernel_rfl) (by kernel_rfl) (fun _ _ _ h => h) (Or.inl ⟨by rfl, ?_⟩) hS ?_
                        rotate_left
                        · (intro w hSw; (try dsimp only at hSw); go_simp; (try with_reducible rfl))
                        try simp only [Act.put, List.setIfInBounds_toArray, List.set_cons_zero, List.set_cons_succ]
                        refine wpAnyH_take (i := 2) (oi := { dst := some 162, op := Go.Op.move (Go.Operand.tmp 161), type := 4, pos := "law.go:179", after := #[{ on := 1, ground := Go.Ground.data }], guard := none }) (v := ?_) rfl (by kernel_rfl) (by kernel_rfl) (by kernel_rfl) (fun _ _ _ h => h) (Or.inl ⟨by rfl, ?_⟩) hS ?_
                        rotate_left
                        · (intro w hSw; (try dsimp only at hSw); go_simp; (try with_reducible rfl))
                        try simp only [Act.put, List.setIfInBounds_toArray, List.set_cons_zero, List.set_cons_succ]
                        refine wpAnyH_take (i := 3) (oi := { dst := some 163, op := Go.Op.move (Go.Operand.tmp 16), type := 33, pos := "law.go:179", after := #[{ on := 2, ground := Go.Ground.guard }], guard := some (2, true) }) (v := undef) rfl (by kernel_rfl) (by kernel_rfl) (by kernel_rfl) (fun _ _ _ h => h) (Or.inr ⟨by rfl, rfl⟩) hS ?_
                        try simp only [Act.put, List.setIfInBounds_toArray, List.set_cons_zero, List.set_cons_succ]
                        refine wpAnyH_take (i := 4) (oi := { dst := some 164, op := Go.Op.convert 33 9 (Go.Operand.tmp 163), type := 9, pos := "law.go:179", after := #[{ on := 3, ground := Go.Ground.data }, { on := 2, ground := Go.Ground.guard }], guard := some (2, true) }) (v := undef) rfl (by kernel_rfl) (by kernel_rfl) (by kernel_rfl) (fun _ _ _ h => h) (Or.inr ⟨by rfl, rfl⟩) hS ?_
                        try simp only [Act.put, List.setIfInBounds_toArray, List.set_cons_zero, List.set_cons_succ]
                        refine wpAnyH_take (i := 5) (oi := { dst := some 165, op := Go.Op.move (Go.Operand.tmp 9), type := 58, pos := "law.go:179", after := #[{ on := 2, ground := Go.Ground.guard }], guard := some (2, true) }) (v := undef) rfl (by kernel_rfl) (by kernel_rfl) (by kernel_rfl) (fun _ _ _ h => h) (Or.inr ⟨by rfl, rfl⟩) hS ?_
                        try simp only [Act.put, List.setIfInBounds_toArray, List.set_cons_zero, List.set_cons_succ]
                        refine wpAnyH_take (i := 6) (oi := { dst := some 166, op := Go.Op.fieldAddr 61 (Go.Operand.tmp 12) 1, type := 0, pos := "law.go:179", after := #[{ on := 2, ground := Go.Ground.guard }], guard := some (2, true) }) (v := undef) rfl (by kernel_rfl) (by kernel_rfl) (by kernel_rfl) (fun _ _ _ h => h) (Or.inr ⟨by rfl, rfl⟩) hS ?_
                        try simp only [Act.put, List.setIfInBounds_toArray, List.set_cons_zero, List.set_cons_succ]
                        refine wpAnyH_take (i := 7) (oi := { dst := some 167, op := Go.Op.load 3 (Go.Operand.tmp 166), type := 3, pos := "law.go:179", after := #[{ on := 6, ground := Go.Ground.data }, { on := 2, ground := Go.Ground.guard }], guard := some (2, true) }) (v := undef) rfl (by kernel_rfl) (by kernel_rfl) (by kernel_rfl) (fun _ _ _ h => h) (Or.inr ⟨by rfl, rfl⟩) hS ?_
                        try simp only [Act.put, List.setIfInBounds_toArray, List.set_cons_zero, List.set_cons_succ]
                        refine wpAnyH_take (i := 8) (oi := { dst := some 168, op := Go.Op.indexAddr 58 (Go.Operand.tmp 165) (Go.Operand.tmp 167), type := 0, pos := "law.go:179", after := #[{ on := 5, ground := Go.Ground.data }, { on := 7, ground := Go.Ground.data }, { on := 2, ground := Go.Ground.guard }], guard := some (2, true) }) (v := undef) rfl (by kernel_rfl) (by kernel_rfl) (by kernel_rfl) (fun _ _ _ h => h) (Or.inr ⟨by rfl, rfl⟩) hS ?_
                        try simp only [Act.put, List.setIfInBounds_toArray, List.set_cons_zero, List.set_cons_succ]
                        refine wpAnyH_take (i := 9) (oi := { dst := some 169, op := Go.Op.load 9 (Go.Operand.tmp 168), type := 9, pos := "law.go:179", after := #[{ on := 8, ground := Go.Ground.data }, { on := 2, ground := Go.Ground.guard }], guard := some (2, true) }) (v := undef) rfl (by kernel_rfl) (by kernel_rfl) (by kernel_rfl) (fun _ _ _ h => h) (Or.inr ⟨by rfl, rfl⟩) hS ?_
                        try simp only [Act.put, List.setIfInBounds_toArray, List.set_cons_zero, List.set_cons_succ]
                        refine wpAnyH_take (i := 10) (oi := { dst := some 170, op := Go.Op.binOp Go.BinOp.neq 9 (Go.Operand.tmp 164) (Go.Operand.tmp 169) 9, type := 4, pos := "law.go:179", after := #[{ on := 4, ground := Go.Ground.data }, { on := 9, ground := Go.Ground.data }, { on := 2, ground := Go.Ground.guard }], guard := some (2, true) }) (v := undef) rfl (by kernel_rfl) (by kernel_rfl) (by kernel_rfl) (fun _ _ _ h => h) (Or.inr ⟨by rfl, rfl⟩) hS ?_
                        try simp only [Act.put, List.setIfInBounds_toArray, List.set_cons_zero, List.set_cons_succ]
                        refine wpAnyH_take (i := 11) (oi := { dst := some 171, op := Go.Op.pick (Go.Operand.tmp 162) (Go.Operand.tmp 170) (Go.Operand.const (Go.Value.bool false)), type := 4, pos := "law.go:179", after := #[{ on := 2, ground := Go.Ground.data }, { on := 10, ground := Go.Ground.data }], guard := none }) (v := ?_) rfl (by kernel_rfl) (by kernel_rfl) (by kernel_rfl) (fun _ _ _ h => h) (Or.inl ⟨by rfl, ?_⟩) hS ?_
                        rotate_left
                        · (intro w hSw; (try dsimp only at hSw); go_simp; (try with_reducible rfl))
                        try simp only [Act.put, List.setIfInBounds_toArray, List.set_cons_zero, List.set_cons_succ]
                        refine wpAnyH_done (by kernel_rfl) ?_ _
                        go_wp2_with (first | go_skip)
                        go_meet
                        case rel => exact ⟨_, ms, now, Hgd.out, Hol.out, Howl.out, KF.out, fun m hm => Nat.le_succ_of_le (Hml.out m hm), (hE1.drew.erase 2).tail⟩
                    · rw [if_neg e4] at hgd hol how
                      have Hgd := SL.hid hgd
                      have Hol := SL.hid hol
                      have Howl := SL.hid how
                      clear hgd hol how
                      have d4 : ((xd.toNat : Int) == 4) = false := u8_isnt e4
                      clear e4
                      have hw' : s.wait.length ≤ 1000000 := by omega
                      by_cases hz : s.writeE xn (DAct.data ⟨xd, xn, xk, xc, xh⟩).length = 0
                      · as_aux_lemma =>
                        obtain ⟨r0, r1⟩ := writeE_zero hz
                        rw [Hon.out] at r1
                        obtain ⟨m, rfl⟩ : ∃ m : Nat, xn = m := ⟨xn.toNat, by omega⟩
                        have hm : m < n := by omega
                        have hzb : (s.writeE m (DAct.data ⟨xd, m, xk, xc, xh⟩).length == 0) = true := by rw [hz]; rfl
                        have KF := SL.hid (Hwas.out ▸ (KMid.wrote hg HK.out hz).2.2)
                        clear hz r0 r1
                        go_wp2_with (first | go_skip | (with_reducible (show Go.wpList _ _ _ (Go.Oper.mk _ (.load _ _) _ _ _ _ :: _) _ _); first | (refine wpl_load1 hE 0 rfl rfl rfl rfl (by simp [go_sem]) rfl ?_) | (refine wpl_load1 hE 1 rfl rfl rfl rfl (by simp [go_sem]) rfl ?_) | (refine wpl_load1 hE 2 rfl rfl rfl rfl (by simp [go_sem]) rfl ?_) | (refine wpl_load1 hE 3 rfl rfl rfl rfl (by simp [go_sem]) rfl ?_) | (refine wpl_load1 hE 4 rfl rfl rfl rfl (by simp [go_sem]) rfl ?_) | (refine wpl_load1 hE 5 rfl rfl rfl rfl (by simp [go_sem]) rfl ?_)))
                        have hED := hE.drew
                        refine wp_region_held_drew (S := (fun w' => w'.cell? ⟨bx, 0, none⟩ = some (.int .u8 xd.toNat) ∧ w'.cell? ⟨bx, 1, none⟩ = some (.int .i64 m) ∧ w'.cell? ⟨bx, 2, none⟩ = some (.string xk) ∧ w'.cell? ⟨bx, 3, none⟩ = some (.int .u8 xc.toNat) ∧ w'.cell? ⟨bx, 4, none⟩ = some (.bool xh))) (by kernel_rfl) (act5 hED 0 rfl) (fun hS => ?_)
                        refine wpAnyH_take (i := 0) (oi := { dst := some 83, op := Go.Op.move (Go.Operand.tmp 6), type := 54, pos := "law.go:183", after := #[], guard := none }) (v := ?_) rfl (by kernel_rfl) (by kernel_rfl) (by kernel_rfl) (fun _ _ _ h => h) (Or.inl ⟨by rfl, ?_⟩) hS ?_
                        rotate_left
                        · (intro w hSw; (try dsimp only at hSw); go_simp; (try with_reducible rfl))
                        try simp only [Act.put, List.setIfInBounds_toArray, List.set_cons_zero, List.set_cons_succ]
                        refine wpAnyH_take (i := 1) (oi := { dst := some 84, op := Go.Op.fieldAddr 61 (Go.Operand.tmp 12) 1, type := 0, pos := "law.go:183", after := #[], guard := none }) (v := ?_) rfl (by kernel_rfl) (by kernel_rfl) (by kernel_rfl) (fun _ _ _ h => h) (Or.inl ⟨by rfl, ?_⟩) hS ?_
                        rotate_left
                        · (intro w hSw; (try dsimp only at hSw); go_simp; (try with_reducible rfl))
                        try simp only [Act.put, List.setIfInBounds_toArray, List.set_cons_zero, List.set_cons_succ]
                        refine wpAnyH_take (i := 2) (oi := { dst := some 85, op := Go.Op.load 3 (Go.Operand.tmp 84), type := 3, pos := "law.go:183", after := #[{ on := 1, ground := Go.Ground.data }], guard := none }) (v := ?_) rfl (by kernel_rfl) (by kernel_rfl) (by kernel_rfl) (fun _ _ _ h => h) (Or.inl ⟨by rfl, ?_⟩) hS ?_
                        rotate_left
                        · (intro w hSw; (try dsimp only at hSw); go_simp; (try with_reducible rfl))
                        try simp only [Act.put, List.setIfInBounds_toArray, List.set_cons_zero, List.set_cons_succ]
                        refine wpAnyH_take (i := 3) (oi := { dst := some 86, op := Go.Op.load 61 (Go.Operand.tmp 12), type := 61, pos := "law.go:183", after := #[], guard := none }) (v := ?_) rfl (by kernel_rfl) (by kernel_rfl) (by kernel_rfl) (fun _ _ _ h => h) (Or.inl ⟨by rfl, ?_⟩) hS ?_
                        rotate_left
                        · (intro w hSw; (try dsimp only at hSw); go_simp; (try with_reducible rfl))
                        try simp only [Act.put, List.setIfInBounds_toArray, List.set_cons_zero, List.set_cons_succ]
                        refine wpAnyH_ready (rs := [4]) (by kernel_rfl) (by simp) ?_
                        refine (AllReadyH.cons (o := { dst := some 87, op := Go.Op.call { callee := Go.Callee.value (Go.Operand.func 41), args := #[Go.Operand.tmp 86], argTypes := #[61] }, type := 33, pos := "law.go:183", after := #[{ on := 3, ground := Go.Ground.data }], guard := none }) rfl (fun K hK => ?_) AllReadyH.nil)
                        (go_simp; (go_at_call 41; have H := data_any ⟨xd, m, xk, xc, xh⟩ hED; refine H.mono ?_; clear H; rintro e w2 ⟨v, rfl, g, o, cq, rfl, hkn, hE2⟩))
                        refine hK.out _ _ (act5 hE2 1 rfl) (fun hS => ?_)
                        clear hK K
                        try simp only [Act.put, List.setIfInBounds_toArray, List.set_cons_zero, List.set_cons_succ]
                        refine wpAnyH_ready (rs := [5]) (by kernel_rfl) (by simp) ?_
                        refine (AllReadyH.cons (o := { dst := some 88, op := Go.Op.call { callee := Go.Callee.value (Go.Operand.func 40), args := #[Go.Operand.tmp 83, Go.Operand.tmp 85, Go.Operand.tmp 87], argTypes := #[54, 3, 33] }, type := 34, pos := "law.go:183", after := #[{ on := 0, ground := Go.Ground.data }, { on := 2, ground := Go.Ground.data }, { on := 4, ground := Go.Ground.data }, { on := 4, ground := Go.Ground.chain }], guard := none }) rfl (fun K hK => ?_) AllReadyH.nil)
                        (go_simp; (go_at_call 40; have H := Write_any (k := m) rfl hg hw' (hkn _) (hE2.front 2 rfl); refine H.mono ?_; clear H; rintro e w3 ⟨v, rfl, rfl, hE4⟩))
                        refine hK.out _ _ (act5 hE4 2 rfl) (fun hS => ?_)
                        clear hK K
                        try simp only [Act.put, List.setIfInBounds_toArray, List.set_cons_zero, List.set_cons_succ]
                        refine wpAnyH_take (i := 6) (oi := { dst := some 14, op := Go.Op.assign (Go.Operand.tmp 88), type := 34, pos := "law.go:183", after := #[{ on := 5, ground := Go.Ground.data }, { on := 5, ground := Go.Ground.chain }, { on := 0, ground := Go.Ground.phase }, { on := 1, ground := Go.Ground.phase }, { on := 2, ground := Go.Ground.phase }, { on := 3, ground := Go.Ground.phase }, { on := 4, ground := Go.Ground.phase }, { on := 5, ground := Go.Ground.phase }], guard := none }) (v := ?_) rfl (by kernel_rfl) (by kernel_rfl) (by kernel_rfl) (fun _ _ _ h => h) (Or.inl ⟨by rfl, ?_⟩) hS ?_
                        rotate_left
                        · (intro w hSw; (try dsimp only at hSw); go_simp; (try with_reducible rfl))
                        try simp only [Act.put, List.setIfInBounds_toArray, List.set_cons_zero, List.set_cons_succ]
                        refine wpAnyH_done (by kernel_rfl) ?_ _
                        simp only [List.eraseIdx_cons_succ, List.eraseIdx_cons_zero] at hE4
                        clear hE2 hED hE hkn
                        go_wp2_with (first | go_skip)
                        have hED := hE4.drew
                        refine wp_region_held_drew (S := (fun w' => w'.cell? ⟨bx, 0, none⟩ = some (.int .u8 xd.toNat) ∧ w'.cell? ⟨bx, 1, none⟩ = some (.int .i64 m) ∧ w'.cell? ⟨bx, 2, none⟩ = some (.string xk) ∧ w'.cell? ⟨bx, 3, none⟩ = some (.int .u8 xc.toNat) ∧ w'.cell? ⟨bx, 4, none⟩ = some (.bool xh))) (by kernel_rfl) (act5 hED 2 rfl) (fun hS => ?_)
                        refine wpAnyH_take (i := 0) (oi := { dst := some 91, op := Go.Op.move (Go.Operand.tmp 9), type := 58, pos := "law.go:185", after := #[], guard := none }) (v := ?_) rfl (by kernel_rfl) (by kernel_rfl) (by kernel_rfl) (fun _ _ _ h => h) (Or.inl ⟨by rfl, ?_⟩) hS ?_
                        rotate_left
                        · (intro w hSw; (try dsimp only at hSw); go_simp; (try with_reducible rfl))
                        try simp only [Act.put, List.setIfInBounds_toArray, List.set_cons_zero, List.set_cons_succ]
                        refine wpAnyH_take (i := 1) (oi := { dst := some 92, op := Go.Op.fieldAddr 61 (Go.Operand.tmp 12) 1, type := 0, pos := "law.go:185", after := #[], guard := none }) (v := ?_) rfl (by kernel_rfl) (by kernel_rfl) (by kernel_rfl) (fun _ _ _ h => h) (Or.inl ⟨by rfl, ?_⟩) hS ?_
                        rotate_left
                        · (intro w hSw; (try dsimp only at hSw); go_simp; (try with_reducible rfl))
                        try simp only [Act.put, List.setIfInBounds_toArray, List.set_cons_zero, List.set_cons_succ]
                        refine wpAnyH_take (i := 2) (oi := { dst := some 93, op := Go.Op.load 3 (Go.Operand.tmp 92), type := 3, pos := "law.go:185", after := #[{ on := 1, ground := Go.Ground.data }], guard := none }) (v := ?_) rfl (by kernel_rfl) (by kernel_rfl) (by kernel_rfl) (fun _ _ _ h => h) (Or.inl ⟨by rfl, ?_⟩) hS ?_
                        rotate_left
                        · (intro w hSw; (try dsimp only at hSw); go_simp; (try with_reducible rfl))
                        try simp only [Act.put, List.setIfInBounds_toArray, List.set_cons_zero, List.set_cons_succ]
                        refine wpAnyH_take (i := 3) (oi := { dst := some 94, op := Go.Op.load 61 (Go.Operand.tmp 12), type := 61, pos := "law.go:185", after := #[], guard := none }) (v := ?_) rfl (by kernel_rfl) (by kernel_rfl) (by kernel_rfl) (fun _ _ _ h => h) (Or.inl ⟨by rfl, ?_⟩) hS ?_
                        rotate_left
                        · (intro w hSw; (try dsimp only at hSw); go_simp; (try with_reducible rfl))
                        try simp only [Act.put, List.setIfInBounds_toArray, List.set_cons_zero, List.set_cons_succ]
                        refine wpAnyH_ready (rs := [4]) (by kernel_rfl) (by simp) ?_
                        refine (AllReadyH.cons (o := { dst := some 95, op := Go.Op.call { callee := Go.Callee.value (Go.Operand.func 41), args := #[Go.Operand.tmp 94], argTypes := #[61] }, type := 33, pos := "law.go:185", after := #[{ on := 3, ground := Go.Ground.data }], guard := none }) rfl (fun K hK => ?_) AllReadyH.nil)
                        (go_simp; (go_at_call 41; have H := data_any ⟨xd, m, xk, xc, xh⟩ hED; refine H.mono ?_; clear H; rintro e w5 ⟨v, rfl, g2, o2, cq2, rfl, hkn2, hE6⟩); have hcv := conv_view (hkn2 _ _ hE6) rfl)
                        refine hK.out _ _ (act5 hE6 3 rfl) (fun hS => ?_)
                        clear hK K
                        try simp only [Act.put, List.setIfInBounds_toArray, List.set_cons_zero, List.set_cons_succ]
                        refine wpAnyH_ready (rs := [5]) (by kernel_rfl) (by simp) ?_
                        refine (AllReadyH.cons (o := { dst := some 96, op := Go.Op.convert 33 9 (Go.Operand.tmp 95), type := 9, pos := "law.go:185", after := #[{ on := 4, ground := Go.Ground.data }], guard := none }) rfl (fun K hK => ?_) AllReadyH.nil)
                        go_simp
                        refine hK.out _ _ (act5 hE6 3 rfl) (fun hS => ?_)
                        clear hK K
                        try simp only [Act.put, List.setIfInBounds_toArray, List.set_cons_zero, List.set_cons_succ]
                        refine wpAnyH_take (i := 6) (oi := { dst := some 97, op := Go.Op.indexAddr 58 (Go.Operand.tmp 91) (Go.Operand.tmp 93), type := 0, pos := "law.go:185", after := #[{ on := 0, ground := Go.Ground.data }, { on := 2, ground := Go.Ground.data }, { on := 0, ground := Go.Ground.phase }, { on := 1, ground := Go.Ground.phase }, { on := 2, ground := Go.Ground.phase }, { on := 3, ground := Go.Ground.phase }, { on := 4, ground := Go.Ground.phase }, { on := 5, ground := Go.Ground.phase }], guard := none }) (v := ?_) rfl (by kernel_rfl) (by kernel_rfl) (by kernel_rfl) (fun _ _ _ h => h) (Or.inl ⟨by rfl, ?_⟩) hS ?_
                        rotate_left
                        · (intro w hSw; (try dsimp only at hSw); go_simp; (try with_reducible rfl))
                        try simp only [Act.put, List.setIfInBounds_toArray, List.set_cons_zero, List.set_cons_succ]
                        refine wpAnyH_ready (rs := [7]) (by kernel_rfl) (by simp) ?_
                        refine (AllReadyH.cons (o := { dst := none, op := Go.Op.store 9 (Go.Operand.tmp 97) (Go.Operand.tmp 96), type := 0, pos := "law.go:185", after := #[{ on := 6, ground := Go.Ground.data }, { on := 5, ground := Go.Ground.data }, { on := 4, ground := Go.Ground.chain }, { on := 0, ground := Go.Ground.phase }, { on := 1, ground := Go.Ground.phase }, { on := 2, ground := Go.Ground.phase }, { on := 3, ground := Go.Ground.phase }, { on := 4, ground := Go.Ground.phase }, { on := 5, ground := Go.Ground.phase }], guard := none }) rfl (fun K hK => ?_) AllReadyH.nil)
                        (refine step_storeRow hE6 5 (v := .string ⟨(DAct.data ⟨xd, m, xk, xc, xh⟩).toArray⟩) (ys := [.string ⟨(DAct.data ⟨xd, m, xk, xc, xh⟩).toArray⟩]) rfl (by rfl) (by rfl) (by rfl) (by rfl) Try.sizeOf9 rfl rfl (by simp [Value.oneCell']) (by omega) ?_; intro w6 hE7)
                        refine hK.out _ _ (act5 hE7 3 rfl) (fun hS => ?_)
                        clear hK K
                        try simp only [Act.put, List.setIfInBounds_toArray, List.set_cons_zero, List.set_cons_succ]
                        refine wpAnyH_done (by kernel_rfl) ?_ _
                        simp only [List.set_cons_succ, List.set_cons_zero] at hE7
                        rw [splice_strs _ (by rw [Hnn.out]; exact hm)] at hE7
                        have hE8 := hE7.tail.erase 1
                        simp only [List.eraseIdx_cons_succ, List.eraseIdx_cons_zero] at hE8
                        clear hE7 hE6 hE4 hED hkn2 hcv
                        have hjm : m < ms.length := by rw [Hmn.out]; exact hm
                        have Hjm := SL.hid hjm
                        have hml := Hml.out ms[m] (List.getElem_mem hjm)
                        generalize hdat : (DAct.data ⟨xd, m, xk, xc, xh⟩) = dat at *
                        rcases hmm : ms[m] with ⟨mao, mc, mxs⟩
                        rw [hmm] at hml
                        have hK3 : (ms.map MRow.xs).getD m [] = mxs := (may_at hjm).trans (congrArg MRow.xs hmm)
                        have hml' : mxs.length ≤ k + 1 := hml
                        have Hmm := SL.hid hmm
                        have HK3 := SL.hid hK3
                        clear hml hmm hK3 hjm
                        go_wp2_with (first | go_skip)
                        have hED := hE8.drew
                        have hN : ((now.set m dat).map strv)[m]? = some (.string ⟨dat.toArray⟩) := by rw [List.getElem?_map, List.getElem?_set_self (by rw [Hnn.out]; exact hm)]; rfl
                        have hV : (ms.map MRow.v)[m]? = some (.slice mao mxs.length mc) := (mrow_cell Hjm.out).trans (congrArg (fun x : MRow => some x.v) Hmm.out)
                        have hP : ∀ (A B C D E : HProp), (A :: B :: C :: D :: E :: (ms.map MRow.piece ++ l))[m + 5]? = some (row 9 1 (.slice mao mxs.length mc) mxs.length (mxs.map strv)) := fun A B C D E => (piece_at5 Hjm.out).trans (congrArg (fun x : MRow => some x.piece) Hmm.out)
                        have HN := SL.hid hN
                        have HV := SL.hid hV
                        have HP := SL.hid hP
                        clear hN hV hP
                        have b7 := hED.rowCell 2 rfl HV.out
                        refine wp_region_held_drew (S := (fun w' => (w'.cell? ⟨bx, 0, none⟩ = some (.int .u8 xd.toNat) ∧ w'.cell? ⟨bx, 1, none⟩ = some (.int .i64 m) ∧ w'.cell? ⟨bx, 2, none⟩ = some (.string xk) ∧ w'.cell? ⟨bx, 3, none⟩ = some (.int .u8 xc.toNat) ∧ w'.cell? ⟨bx, 4, none⟩ = some (.bool xh)) ∧ w'.cell? ⟨bn, m, none⟩ = some (.string ⟨dat.toArray⟩))) (by kernel_rfl) ⟨act5 hED 1 rfl, hED.rowCell 3 rfl HN.out⟩ (fun hS => ?_)
                        refine wpAnyH_take (i := 0) (oi := { dst := some 98, op := Go.Op.move (Go.Operand.tmp 8), type := 57, pos := "law.go:186", after := #[], guard := none }) (v := ?_) rfl (by kernel_rfl) (by kernel_rfl) (by kernel_rfl) (fun _ _ _ h => h) (Or.inl ⟨by rfl, ?_⟩) hS ?_
                        rotate_left
                        · (intro w hSw; (try dsimp only at hSw); go_simp; (try with_reducible rfl))
                        try simp only [Act.put, List.setIfInBounds_toArray, List.set_cons_zero, List.set_cons_succ]
                        refine wpAnyH_take (i := 1) (oi := { dst := some 99, op := Go.Op.fieldAddr 61 (Go.Operand.tmp 12) 1, type := 0, pos := "law.go:186", after := #[], guard := none }) (v := ?_) rfl (by kernel_rfl) (by kernel_rfl) (by kernel_rfl) (fun _ _ _ h => h) (Or.inl ⟨by rfl, ?_⟩) hS ?_
                        rotate_left
                        · (intro w hSw; (try dsimp only at hSw); go_simp; (try with_reducible rfl))
                        try simp only [Act.put, List.setIfInBounds_toArray, List.set_cons_zero, List.set_cons_succ]
                        refine wpAnyH_take (i := 2) (oi := { dst := some 100, op := Go.Op.load 3 (Go.Operand.tmp 99), type := 3, pos := "law.go:186", after := #[{ on := 1, ground := Go.Ground.data }], guard := none }) (v := ?_) rfl (by kernel_rfl) (by kernel_rfl) (by kernel_rfl) (fun _ _ _ h => h) (Or.inl ⟨by rfl, ?_⟩) hS ?_
                        rotate_left
                        · (intro w hSw; (try dsimp only at hSw); go_simp; (try with_reducible rfl))
                        try simp only [Act.put, List.setIfInBounds_toArray, List.set_cons_zero, List.set_cons_succ]
                        refine wpAnyH_take (i := 3) (oi := { dst := some 101, op := Go.Op.move (Go.Operand.tmp 8), type := 57, pos := "law.go:186", after := #[], guard := none }) (v := ?_) rfl (by kernel_rfl) (by kernel_rfl) (by kernel_rfl) (fun _ _ _ h => h) (Or.inl ⟨by rfl, ?_⟩) hS ?_
                        rotate_left
                        · (intro w hSw; (try dsimp only at hSw); go_simp; (try with_reducible rfl))
                        try simp only [Act.put, List.setIfInBounds_toArray, List.set_cons_zero, List.set_cons_succ]
                        refine wpAnyH_take (i := 4) (oi := { dst := some 102, op := Go.Op.fieldAddr 61 (Go.Operand.tmp 12) 1, type := 0, pos := "law.go:186", after := #[], guard := none }) (v := ?_) rfl (by kernel_rfl) (by kernel_rfl) (by kernel_rfl) (fun _ _ _ h => h) (Or.inl ⟨by rfl, ?_⟩) hS ?_
                        rotate_left
                        · (intro w hSw; (try dsimp only at hSw); go_simp; (try with_reducible rfl))
                        try simp only [Act.put, List.setIfInBounds_toArray, List.set_cons_zero, List.set_cons_succ]
                        refine wpAnyH_take (i := 5) (oi := { dst := some 103, op := Go.Op.load 3 (Go.Operand.tmp 102), type := 3, pos := "law.go:186", after := #[{ on := 4, ground := Go.Ground.data }], guard := none }) (v := ?_) rfl (by kernel_rfl) (by kernel_rfl) (by kernel_rfl) (fun _ _ _ h => h) (Or.inl ⟨by rfl, ?_⟩) hS ?_
                        rotate_left
                        · (intro w hSw; (try dsimp only at hSw); go_simp; (try with_reducible rfl))
                        try simp only [Act.put, List.setIfInBounds_toArray, List.set_cons_zero, List.set_cons_succ]
                        refine wpAnyH_take (i := 6) (oi := { dst := some 104, op := Go.Op.indexAddr 57 (Go.Operand.tmp 101) (Go.Operand.tmp 103), type := 0, pos := "law.go:186", after := #[{ on := 3, ground := Go.Ground.data }, { on := 5, ground := Go.Ground.data }], guard := none }) (v := ?_) rfl (by kernel_rfl) (by kernel_rfl) (by kernel_rfl) (fun _ _ _ h => h) (Or.inl ⟨by rfl, ?_⟩) hS ?_
                        rotate_left
                        · (intro w hSw; (try dsimp only at hSw); go_simp; (try with_reducible rfl))
                        try simp only [Act.put, List.setIfInBounds_toArray, List.set_cons_zero, List.set_cons_succ]
                        refine wpAnyH_take (i := 8) (oi := { dst := some 106, op := Go.Op.move (Go.Operand.tmp 9), type := 58, pos := "law.go:186", after := #[], guard := none }) (v := ?_) rfl (by kernel_rfl) (by kernel_rfl) (by kernel_rfl) (fun _ _ _ h => h) (Or.inl ⟨by rfl, ?_⟩) hS ?_
                        rotate_left
                        · (intro w hSw; (try dsimp only at hSw); go_simp; (try with_reducible rfl))
                        try simp only [Act.put, List.setIfInBounds_toArray, List.set_cons_zero, List.set_cons_succ]
                        refine wpAnyH_take (i := 9) (oi := { dst := some 107, op := Go.Op.fieldAddr 61 (Go.Operand.tmp 12) 1, type := 0, pos := "law.go:186", after := #[], guard := none }) (v := ?_) rfl (by kernel_rfl) (by kernel_rfl) (by kernel_rfl) (fun _ _ _ h => h) (Or.inl ⟨by rfl, ?_⟩) hS ?_
                        rotate_left
                        · (intro w hSw; (try dsimp only at hSw); go_simp; (try with_reducible rfl))
                        try simp only [Act.put, List.setIfInBounds_toArray, List.set_cons_zero, List.set_cons_succ]
                        refine wpAnyH_take (i := 10) (oi := { dst := some 108, op := Go.Op.load 3 (Go.Operand.tmp 107), type := 3, pos := "law.go:186", after := #[{ on := 9, ground := Go.Ground.data }], guard := none }) (v := ?_) rfl (by kernel_rfl) (by kernel_rfl) (by kernel_rfl) (fun _ _ _ h => h) (Or.inl ⟨by rfl, ?_⟩) hS ?_
                        rotate_left
                        · (intro w hSw; (try dsimp only at hSw); go_simp; (try with_reducible rfl))
                        try simp only [Act.put, List.setIfInBounds_toArray, List.set_cons_zero, List.set_cons_succ]
                        refine wpAnyH_take (i := 11) (oi := { dst := some 109, op := Go.Op.indexAddr 58 (Go.Operand.tmp 106) (Go.Operand.tmp 108), type := 0, pos := "law.go:186", after := #[{ on := 8, ground := Go.Ground.data }, { on := 10, ground := Go.Ground.data }], guard := none }) (v := ?_) rfl (by kernel_rfl) (by kernel_rfl) (by kernel_rfl) (fun _ _ _ h => h) (Or.inl ⟨by rfl, ?_⟩) hS ?_
                        rotate_left
                        · (intro w hSw; (try dsimp only at hSw); go_simp; (try with_reducible rfl))
                        try simp only [Act.put, List.setIfInBounds_toArray, List.set_cons_zero, List.set_cons_succ]
                        refine wpAnyH_take (i := 12) (oi := { dst := some 110, op := Go.Op.load 9 (Go.Operand.tmp 109), type := 9, pos := "law.go:186", after := #[{ on := 11, ground := Go.Ground.data }], guard := none }) (v := ?_) rfl (by kernel_rfl) (by kernel_rfl) (by kernel_rfl) (fun _ _ _ h => h) (Or.inl ⟨by rfl, ?_⟩) hS ?_
                        rotate_left
                        · (intro w hSw; (try dsimp only at hSw); go_simp; (try with_reducible rfl))
                        try simp only [Act.put, List.setIfInBounds_toArray, List.set_cons_zero, List.set_cons_succ]
                        refine wpAnyH_ready (rs := [7, 13]) (by kernel_rfl) (by simp) ?_
                        refine (AllReadyH.cons (o := { dst := some 105, op := Go.Op.load 58 (Go.Operand.tmp 104), type := 58, pos := "law.go:186", after := #[{ on := 6, ground := Go.Ground.data }], guard := none }) rfl (fun K hK => ?_) (AllReadyH.cons (o := { dst := some 111, op := Go.Op.buildSlice 58 1 #[(0, Go.Operand.tmp 110)], type := 58, pos := "law.go:186", after := #[{ on := 12, ground := Go.Ground.data }], guard := none }) rfl (fun K hK => ?_) AllReadyH.nil))
                        focus
                          go_simp
                          refine hK.out _ _ (by first | exact ⟨act5 hE9 2 rfl, hE9.rowCell 4 rfl HN.out⟩ | exact ⟨act5 hED 1 rfl, hED.rowCell 3 rfl HN.out⟩) (fun hS => ?_)
                          clear hK K
                          try simp only [Act.put, List.setIfInBounds_toArray, List.set_cons_zero, List.set_cons_succ]
                          refine wpAnyH_ready (rs := [13]) (by kernel_rfl) (by simp) ?_
                          refine (AllReadyH.cons (o := { dst := some 111, op := Go.Op.buildSlice 58 1 #[(0, Go.Operand.tmp 110)], type := 58, pos := "law.go:186", after := #[{ on := 12, ground := Go.Ground.data }], guard := none }) rfl (fun K hK => ?_) AllReadyH.nil)
                          (go_simp; have hE9 := (row_one dat hE8).drew; generalize (w6.alloc (.cells #[.string ⟨dat.toArray⟩] 9)).drew = w7 at hE9 ⊢; have b8 := hE9.rowCell 3 rfl HV.out)
                          refine hK.out _ _ ⟨act5 hE9 2 rfl, hE9.rowCell 4 rfl HN.out⟩ (fun hS => ?_)
                          clear hK K
                          try simp only [Act.put, List.setIfInBounds_toArray, List.set_cons_zero, List.set_cons_succ]
                          refine wpAnyH_ready (rs := [14]) (by kernel_rfl) (by simp) ?_
                          refine (AllReadyH.cons (o := { dst := some 112, op := Go.Op.call { callee := Go.Callee.builtin Go.Builtin.append, args := #[Go.Operand.tmp 105, Go.Operand.tmp 111], argTypes := #[58, 58] }, type := 58, pos := "law.go:186", after := #[{ on := 7, ground := Go.Ground.data }, { on := 13, ground := Go.Ground.data }], guard := none }) rfl (fun K hK => ?_) AllReadyH.nil)
                          (refine step_appendG hE9 (m + 5) (HP.out _ _ _ _ _) (by rfl) (by rfl) (by rfl) (by rfl) Try.underlying58 info_string (by decide) (m := 1) (news := [strv dat]) (reads_row hE9 0 rfl) rfl (by simp [strv, Value.oneCell']) (by omega) (by omega) ?_; intro ao' c' w8 hE10; have e10 : row 9 1 (.slice ao' (mxs.length + 1) c') (mxs.length + 1) (mxs.map strv ++ [strv dat]) = MRow.piece ⟨ao', c', mxs ++ [dat]⟩ := (by simp [MRow.piece, MRow.v]); rw [e10, piece_put5 Hjm.out] at hE10; clear e10)
                          refine hK.out _ _ ⟨act5 hE10 2 rfl, hE10.rowCell 4 rfl HN.out⟩ (fun hS => ?_)
                          clear hK K
                          try simp only [Act.put, List.setIfInBounds_toArray, List.set_cons_zero, List.set_cons_succ]
                          refine wpAnyH_take (i := 15) (oi := { dst := some 113, op := Go.Op.indexAddr 57 (Go.Operand.tmp 98) (Go.Operand.tmp 100), type := 0, pos := "law.go:186", after := #[{ on := 0, ground := Go.Ground.data }, { on := 2, ground := Go.Ground.data }, { on := 0, ground := Go.Ground.phase }, { on := 1, ground := Go.Ground.phase }, { on := 2, ground := Go.Ground.phase }, { on := 3, ground := Go.Ground.phase }, { on := 4, ground := Go.Ground.phase }, { on := 5, ground := Go.Ground.phase }, { on := 6, ground := Go.Ground.phase }, { on := 7, ground := Go.Ground.phase }, { on := 8, ground := Go.Ground.phase }, { on := 9, ground := Go.Ground.phase }, { on := 10, ground := Go.Ground.phase }, { on := 11, ground := Go.Ground.phase }, { on := 12, ground := Go.Ground.phase }, { on := 13, ground := Go.Ground.phase }, { on := 14, ground := Go.Ground.phase }], guard := none }) (v := ?_) rfl (by kernel_rfl) (by kernel_rfl) (by kernel_rfl) (fun _ _ _ h => h) (Or.inl ⟨by rfl, ?_⟩) hS ?_
                          rotate_left
                          · (intro w hSw; (try dsimp only at hSw); go_simp; (try with_reducible rfl))
                          try simp only [Act.put, List.setIfInBounds_toArray, List.set_cons_zero, List.set_cons_succ]
                          refine wpAnyH_ready (rs := [16]) (by kernel_rfl) (by simp) ?_
                          refine (AllReadyH.cons (o := { dst := none, op := Go.Op.store 58 (Go.Operand.tmp 113) (Go.Operand.tmp 112), type := 0, pos := "law.go:186", after := #[{ on := 15, ground := Go.Ground.data }, { on := 14, ground := Go.Ground.data }, { on := 14, ground := Go.Ground.chain }, { on := 0, ground := Go.Ground.phase }, { on := 1, ground := Go.Ground.phase }, { on := 2, ground := Go.Ground.phase }, { on := 3, ground := Go.Ground.phase }, { on := 4, ground := Go.Ground.phase }, { on := 5, ground := Go.Ground.phase }, { on := 6, ground := Go.Ground.phase }, { on := 7, ground := Go.Ground.phase }, { on := 8, ground := Go.Ground.phase }, { on := 9, ground := Go.Ground.phase }, { on := 10, ground := Go.Ground.phase }, { on := 11, ground := Go.Ground.phase }, { on := 12, ground := Go.Ground.phase }, { on := 13, ground := Go.Ground.phase }, { on := 14, ground := Go.Ground.phase }], guard := none }) rfl (fun K hK => ?_) AllReadyH.nil)
                          (refine step_storeRow hE10 3 (v := .slice ao' (mxs.length + 1) c') (ys := [MRow.v ⟨ao', c', mxs ++ [dat]⟩]) rfl (by rfl) (by rfl) (by rfl) (by rfl) Try.sizeOf58 (by simp [MRow.v, Value.cells]) rfl (by simp [MRow.v, Value.oneCell']) (by omega) ?_; intro w9 hE11; simp only [List.set_cons_succ, List.set_cons_zero] at hE11; rw [splice_mrow _ Hjm.out] at hE11)
                          refine hK.out _ _ ⟨act5 hE11 2 rfl, hE11.rowCell 4 rfl HN.out⟩ (fun hS => ?_)
                          clear hK K
                          try simp only [Act.put, List.setIfInBounds_toArray, List.set_cons_zero, List.set_cons_succ]
                          refine wpAnyH_done (by kernel_rfl) ?_ _
                          (go_wp2_with (first | go_skip); go_meet; case rel => exact ⟨_, ms.set m ⟨ao', c', mxs ++ [dat]⟩, now.set m dat, Hgd.out, Hol.out, Howl.out, by rw [List.map_set]; have := KF.out; rwa [HK3.out] at this, all_len (fun x hx => Nat.le_succ_of_le (Hml.out x hx)) (by rw [List.length_append]; exact Nat.succ_le_succ hml'), hE11.tail.erase 1⟩)
                        focus
                          (go_simp; have hE9 := (row_one dat hE8).drew; generalize (w6.alloc (.cells #[.string ⟨dat.toArray⟩] 9)).drew = w7 at hE9 ⊢; have b8 := hE9.rowCell 3 rfl HV.out)
                          refine hK.out _ _ ⟨act5 hE9 2 rfl, hE9.rowCell 4 rfl HN.out⟩ (fun hS => ?_)
                          clear hK K
                          try simp only [Act.put, List.setIfInBounds_toArray, List.set_cons_zero, List.set_cons_succ]
                          refine wpAnyH_ready (rs := [7]) (by kernel_rfl) (by simp) ?_
                          refine (AllReadyH.cons (o := { dst := some 105, op := Go.Op.load 58 (Go.Operand.tmp 104), type := 58, pos := "law.go:186", after := #[{ on := 6, ground := Go.Ground.data }], guard := none }) rfl (fun K hK => ?_) AllReadyH.nil)
                          go_simp
                          refine hK.out _ _ (by first | exact ⟨act5 hE9 2 rfl, hE9.rowCell 4 rfl HN.out⟩ | exact ⟨act5 hED 1 rfl, hED.rowCell 3 rfl HN.out⟩) (fun hS => ?_)
                          clear hK K
                          try simp only [Act.put, List.setIfInBounds_toArray, List.set_cons_zero, List.set_cons_succ]
                          refine wpAnyH_ready (rs := [14]) (by kernel_rfl) (by simp) ?_
                          refine (AllReadyH.cons (o := { dst := some 112, op := Go.Op.call { callee := Go.Callee.builtin Go.Builtin.append, args := #[Go.Operand.tmp 105, Go.Operand.tmp 111], argTypes := #[58, 58] }, type := 58, pos := "law.go:186", after := #[{ on := 7, ground := Go.Ground.data }, { on := 13, ground := Go.Ground.data }], guard := none }) rfl (fun K hK => ?_) AllReadyH.nil)
                          (refine step_appendG hE9 (m + 5) (HP.out _ _ _ _ _) (by rfl) (by rfl) (by rfl) (by rfl) Try.underlying58 info_string (by decide) (m := 1) (news := [strv dat]) (reads_row hE9 0 rfl) rfl (by simp [strv, Value.oneCell']) (by omega) (by omega) ?_; intro ao' c' w8 hE10; have e10 : row 9 1 (.slice ao' (mxs.length + 1) c') (mxs.length + 1) (mxs.map strv ++ [strv dat]) = MRow.piece ⟨ao', c', mxs ++ [dat]⟩ := (by simp [MRow.piece, MRow.v]); rw [e10, piece_put5 Hjm.out] at hE10; clear e10)
                          refine hK.out _ _ ⟨act5 hE10 2 rfl, hE10.rowCell 4 rfl HN.out⟩ (fun hS => ?_)
                          clear hK K
                          try simp only [Act.put, List.setIfInBounds_toArray, List.set_cons_zero, List.set_cons_succ]
                          refine wpAnyH_take (i := 15) (oi := { dst := some 113, op := Go.Op.indexAddr 57 (Go.Operand.tmp 98) (Go.Operand.tmp 100), type := 0, pos := "law.go:186", after := #[{ on := 0, ground := Go.Ground.data }, { on := 2, ground := Go.Ground.data }, { on := 0, ground := Go.Ground.phase }, { on := 1, ground := Go.Ground.phase }, { on := 2, ground := Go.Ground.phase }, { on := 3, ground := Go.Ground.phase }, { on := 4, ground := Go.Ground.phase }, { on := 5, ground := Go.Ground.phase }, { on := 6, ground := Go.Ground.phase }, { on := 7, ground := Go.Ground.phase }, { on := 8, ground := Go.Ground.phase }, { on := 9, ground := Go.Ground.phase }, { on := 10, ground := Go.Ground.phase }, { on := 11, ground := Go.Ground.phase }, { on := 12, ground := Go.Ground.phase }, { on := 13, ground := Go.Ground.phase }, { on := 14, ground := Go.Ground.phase }], guard := none }) (v := ?_) rfl (by kernel_rfl) (by kernel_rfl) (by kernel_rfl) (fun _ _ _ h => h) (Or.inl ⟨by rfl, ?_⟩) hS ?_
                          rotate_left
                          · (intro w hSw; (try dsimp only at hSw); go_simp; (try with_reducible rfl))
                          try simp only [Act.put, List.setIfInBounds_toArray, List.set_cons_zero, List.set_cons_succ]
                          refine wpAnyH_ready (rs := [16]) (by kernel_rfl) (by simp) ?_
                          refine (AllReadyH.cons (o := { dst := none, op := Go.Op.store 58 (Go.Operand.tmp 113) (Go.Operand.tmp 112), type := 0, pos := "law.go:186", after := #[{ on := 15, ground := Go.Ground.data }, { on := 14, ground := Go.Ground.data }, { on := 14, ground := Go.Ground.chain }, { on := 0, ground := Go.Ground.phase }, { on := 1, ground := Go.Ground.phase }, { on := 2, ground := Go.Ground.phase }, { on := 3, ground := Go.Ground.phase }, { on := 4, ground := Go.Ground.phase }, { on := 5, ground := Go.Ground.phase }, { on := 6, ground := Go.Ground.phase }, { on := 7, ground := Go.Ground.phase }, { on := 8, ground := Go.Ground.phase }, { on := 9, ground := Go.Ground.phase }, { on := 10, ground := Go.Ground.phase }, { on := 11, ground := Go.Ground.phase }, { on := 12, ground := Go.Ground.phase }, { on := 13, ground := Go.Ground.phase }, { on := 14, ground := Go.Ground.phase }], guard := none }) rfl (fun K hK => ?_) AllReadyH.nil)
                          (refine step_storeRow hE10 3 (v := .slice ao' (mxs.length + 1) c') (ys := [MRow.v ⟨ao', c', mxs ++ [dat]⟩]) rfl (by rfl) (by rfl) (by rfl) (by rfl) Try.sizeOf58 (by simp [MRow.v, Value.cells]) rfl (by simp [MRow.v, Value.oneCell']) (by omega) ?_; intro w9 hE11; simp only [List.set_cons_succ, List.set_cons_zero] at hE11; rw [splice_mrow _ Hjm.out] at hE11)
                          refine hK.out _ _ ⟨act5 hE11 2 rfl, hE11.rowCell 4 rfl HN.out⟩ (fun hS => ?_)
                          clear hK K
                          try simp only [Act.put, List.setIfInBounds_toArray, List.set_cons_zero, List.set_cons_succ]
                          refine wpAnyH_done (by kernel_rfl) ?_ _
                          (go_wp2_with (first | go_skip); go_meet; case rel => exact ⟨_, ms.set m ⟨ao', c', mxs ++ [dat]⟩, now.set m dat, Hgd.out, Hol.out, Howl.out, by rw [List.map_set]; have := KF.out; rwa [HK3.out] at this, all_len (fun x hx => Nat.le_succ_of_le (Hml.out x hx)) (by rw [List.length_append]; exact Nat.succ_le_succ hml'), hE11.tail.erase 1⟩)
                      · as_aux_lemma =>
                        have hzb : (s.writeE xn (DAct.data ⟨xd, xn, xk, xc, xh⟩).length == 0) = false := by simpa using hz
                        have KF := SL.hid (Hwas.out ▸ KMid.wroteNot HK.out hz)
                        clear hz
                        go_wp2_with (first | go_skip | (with_reducible (show Go.wpList _ _ _ (Go.Oper.mk _ (.load _ _) _ _ _ _ :: _) _ _); first | (refine wpl_load1 hE 0 rfl rfl rfl rfl (by simp [go_sem]) rfl ?_) | (refine wpl_load1 hE 1 rfl rfl rfl rfl (by simp [go_sem]) rfl ?_) | (refine wpl_load1 hE 2 rfl rfl rfl rfl (by simp [go_sem]) rfl ?_) | (refine wpl_load1 hE 3 rfl rfl rfl rfl (by simp [go_sem]) rfl ?_) | (refine wpl_load1 hE 4 rfl rfl rfl rfl (by simp [go_sem]) rfl ?_) | (refine wpl_load1 hE 5 rfl rfl rfl rfl (by simp [go_sem]) rfl ?_)))
                        have hED := hE.drew
                        refine wp_region_held_drew (S := (fun w' => w'.cell? ⟨bx, 0, none⟩ = some (.int .u8 xd.toNat) ∧ w'.cell? ⟨bx, 1, none⟩ = some (.int .i64 xn) ∧ w'.cell? ⟨bx, 2, none⟩ = some (.string xk) ∧ w'.cell? ⟨bx, 3, none⟩ = some (.int .u8 xc.toNat) ∧ w'.cell? ⟨bx, 4, none⟩ = some (.bool xh))) (by kernel_rfl) (act5 hED 0 rfl) (fun hS => ?_)
                        refine wpAnyH_take (i := 0) (oi := { dst := some 83, op := Go.Op.move (Go.Operand.tmp 6), type := 54, pos := "law.go:183", after := #[], guard := none }) (v := ?_) rfl (by kernel_rfl) (by kernel_rfl) (by kernel_rfl) (fun _ _ _ h => h) (Or.inl ⟨by rfl, ?_⟩) hS ?_
                        rotate_left
                        · (intro w hSw; (try dsimp only at hSw); go_simp; (try with_reducible rfl))
                        try simp only [Act.put, List.setIfInBounds_toArray, List.set_cons_zero, List.set_cons_succ]
                        refine wpAnyH_take (i := 1) (oi := { dst := some 84, op := Go.Op.fieldAddr 61 (Go.Operand.tmp 12) 1, type := 0, pos := "law.go:183", after := #[], guard := none }) (v := ?_) rfl (by kernel_rfl) (by kernel_rfl) (by kernel_rfl) (fun _ _ _ h => h) (Or.inl ⟨by rfl, ?_⟩) hS ?_
                        rotate_left
                        · (intro w hSw; (try dsimp only at hSw); go_simp; (try with_reducible rfl))
                        try simp only [Act.put, List.setIfInBounds_toArray, List.set_cons_zero, List.set_cons_succ]
                        refine wpAnyH_take (i := 2) (oi := { dst := some 85, op := Go.Op.load 3 (Go.Operand.tmp 84), type := 3, pos := "law.go:183", after := #[{ on := 1, ground := Go.Ground.data }], guard := none }) (v := ?_) rfl (by kernel_rfl) (by kernel_rfl) (by kernel_rfl) (fun _ _ _ h => h) (Or.inl ⟨by rfl, ?_⟩) hS ?_
                        rotate_left
                        · (intro w hSw; (try dsimp only at hSw); go_simp; (try with_reducible rfl))
                        try simp only [Act.put, List.setIfInBounds_toArray, List.set_cons_zero, List.set_cons_succ]
                        refine wpAnyH_take (i := 3) (oi := { dst := some 86, op := Go.Op.load 61 (Go.Operand.tmp 12), type := 61, pos := "law.go:183", after := #[], guard := none }) (v := ?_) rfl (by kernel_rfl) (by kernel_rfl) (by kernel_rfl) (fun _ _ _ h => h) (Or.inl ⟨by rfl, ?_⟩) hS ?_
                        rotate_left
                        · (intro w hSw; (try dsimp only at hSw); go_simp; (try with_reducible rfl))
                        try simp only [Act.put, List.setIfInBounds_toArray, List.set_cons_zero, List.set_cons_succ]
                        refine wpAnyH_ready (rs := [4]) (by kernel_rfl) (by simp) ?_
                        refine (AllReadyH.cons (o := { dst := some 87, op := Go.Op.call { callee := Go.Callee.value (Go.Operand.func 41), args := #[Go.Operand.tmp 86], argTypes := #[61] }, type := 33, pos := "law.go:183", after := #[{ on := 3, ground := Go.Ground.data }], guard := none }) rfl (fun K hK => ?_) AllReadyH.nil)
                        (go_simp; (go_at_call 41; have H := data_any ⟨xd, xn, xk, xc, xh⟩ hED; refine H.mono ?_; clear H; rintro e w2 ⟨v, rfl, g, o, cq, rfl, hkn, hE2⟩))
                        refine hK.out _ _ (act5 hE2 1 rfl) (fun hS => ?_)
                        clear hK K
                        try simp only [Act.put, List.setIfInBounds_toArray, List.set_cons_zero, List.set_cons_succ]
                        refine wpAnyH_ready (rs := [5]) (by kernel_rfl) (by simp) ?_
                        refine (AllReadyH.cons (o := { dst := some 88, op := Go.Op.call { callee := Go.Callee.value (Go.Operand.func 40), args := #[Go.Operand.tmp 83, Go.Operand.tmp 85, Go.Operand.tmp 87], argTypes := #[54, 3, 33] }, type := 34, pos := "law.go:183", after := #[{ on := 0, ground := Go.Ground.data }, { on := 2, ground := Go.Ground.data }, { on := 4, ground := Go.Ground.data }, { on := 4, ground := Go.Ground.chain }], guard := none }) rfl (fun K hK => ?_) AllReadyH.nil)
                        (go_simp; (go_at_call 40; have H := Write_any (k := xn) rfl hg hw' (hkn _) (hE2.front 2 rfl); refine H.mono ?_; clear H; rintro e w3 ⟨v, rfl, rfl, hE4⟩))
                        refine hK.out _ _ (act5 hE4 2 rfl) (fun hS => ?_)
                        clear hK K
                        try simp only [Act.put, List.setIfInBounds_toArray, List.set_cons_zero, List.set_cons_succ]
                        refine wpAnyH_take (i := 6) (oi := { dst := some 14, op := Go.Op.assign (Go.Operand.tmp 88), type := 34, pos := "law.go:183", after := #[{ on := 5, ground := Go.Ground.data }, { on := 5, ground := Go.Ground.chain }, { on := 0, ground := Go.Ground.phase }, { on := 1, ground := Go.Ground.phase }, { on := 2, ground := Go.Ground.phase }, { on := 3, ground := Go.Ground.phase }, { on := 4, ground := Go.Ground.phase }, { on := 5, ground := Go.Ground.phase }], guard := none }) (v := ?_) rfl (by kernel_rfl) (by kernel_rfl) (by kernel_rfl) (fun _ _ _ h => h) (Or.inl ⟨by rfl, ?_⟩) hS ?_
                        rotate_left
                        · (intro w hSw; (try dsimp only at hSw); go_simp; (try with_reducible rfl))
                        try simp only [Act.put, List.setIfInBounds_toArray, List.set_cons_zero, List.set_cons_succ]
                        refine wpAnyH_done (by kernel_rfl) ?_ _
                        simp only [List.eraseIdx_cons_succ, List.eraseIdx_cons_zero] at hE4
                        clear hE2 hED hE hkn
                        go_wp2_with (first | go_skip)
                        go_meet
                        case rel => exact ⟨_, ms, now, Hgd.out, Hol.out, Howl.out, KF.out, fun m hm => Nat.le_succ_of_le (Hml.out m hm), (hE4.erase 1).erase 1⟩
          case rest => as_aux_lemma =>
            clear hE
            obtain ⟨s2, ms2, now2, hg2, hon2, hw2, hK2, hml2, hE⟩ := hcut
            clear HK Hon Hml Hmn Hnn hw hg
            have HK2 := SL.hid hK2
            have Hon2 := SL.hid hon2
            have Hml2 := SL.hid hml2
            have Hmn2 := SL.hid (show ms2.length = n by have := HK2.out.mlen; rw [Hon2.out] at this; simpa using this)
            have Hnn2 := SL.hid (show now2.length = n by have := HK2.out.nlen; rw [Hon2.out] at this; exact this)
            clear hK2 hon2 hml2
            go_upto_region 42 with (first | go_skip)
            go_cut [18] (fun d wx => d = .bool (was && s2.dead) ∧ Ent (disk p s2 :: rowMx n bm (ms2.map MRow.v) :: rowNx n bn (now2.map strv) :: (ms2.map MRow.piece ++ l)) wx)
            case first =>
              cases was with
              | true =>
                go_wp2_with (first | go_skip | (go_at_call 34; refine (Alive_any hE).mono ?_; rintro e w2 ⟨rfl, rfl⟩))
                go_meet
                case rel => exact ⟨by simp, hE⟩
              | false =>
                go_wp2_with (first | go_skip | (go_at_call 34; refine (Alive_any hE).mono ?_; rintro e w2 ⟨rfl, rfl⟩))
                go_meet
                case rel => exact ⟨by simp, hE⟩
            case rest =>
              clear hE
              obtain ⟨rfl, hE⟩ := hcut
              generalize hdd : (was && s2.dead) = died
              have Hdd := SL.hid hdd
              clear hdd
              go_wp2_with (first | go_skip)
              go_loopw [19] (fun i wr => KLook died n p bm bn k s2 l i wr) (fun i _ => n - (intOf i).toNat)
              case atStart => exact ⟨0, ms2, now2, Nat.zero_le _, rfl, Hmn2.out, Hnn2.out, fun t ht => HK2.out.on t (by rw [Hon2.out]; exact ht), fun h => HK2.out.strong (Hdd.out.trans h), fun _ t ht => by omega, Hml2.out, hE⟩
              case round =>
                clear hE Hml2 Hmn2 Hnn2
                obtain ⟨j, ms, now, hj, rfl, hmn, hnn, hmem, hst, hdj, hml, hE⟩ := hrel
                have Hmn := SL.hid hmn
                have Hnn := SL.hid hnn
                have Hmem := SL.hid hmem
                have Hst := SL.hid hst
                have Hdj := SL.hid hdj
                have Hml := SL.hid hml
                clear hmn hnn hmem hst hdj hml
                by_cases hjn : j < n
                · as_aux_lemma =>
                  have hjm : j < ms.length := by rw [Hmn.out]; exact hjn
                  have hmx := Hmem.out j hjn
                  have hml := Hml.out ms[j] (List.getElem_mem hjm)
                  have hd5 : (s2.on.getD j []).length = 512 := on_len hg2 (by rw [Hon2.out]; exact hjn)
                  generalize hd0 : s2.on.getD j [] = d0 at *
                  rw [may_at hjm] at hmx
                  rcases hmm : ms[j] with ⟨mao, mc, mxs⟩
                  rw [hmm] at hml hmx
                  have hmx' : d0 ∈ mxs := hmx
                  have hml' : mxs.length ≤ k + 2 := hml
                  have h0 : 0 < mxs.length := List.length_pos_of_mem hmx'
                  have hV : (ms.map MRow.v)[j]? = some (.slice mao mxs.length mc) := (mrow_cell hjm).trans (congrArg (fun x : MRow => some x.v) hmm)
                  have hP : ∀ (A B C D : HProp), (A :: B :: C :: D :: (ms.map MRow.piece ++ l))[j + 4]? = some (row 9 1 (.slice mao mxs.length mc) mxs.length (mxs.map strv)) := fun A B C D => (piece_at4 hjm).trans (congrArg (fun x : MRow => some x.piece) hmm)
                  have HV := SL.hid hV
                  have HP := SL.hid hP
                  have Hjm := SL.hid hjm
                  have Hmx := SL.hid hmx'
                  have Hd0 := SL.hid hd0
                  have Hd5 := SL.hid hd5
                  clear hV hP hjm hmx hmx' hml hmm hd0 hd5
                  go_wp2_with (first
                    | go_skip
                    | (go_at_call 42; have H := Raw_any (k := j) hg2 (by rw [Hon2.out]; exact hjn) hE; rw [Hd0.out] at H; refine H.mono ?_; clear H hE; rintro e w4 ⟨v, rfl, q, rfl, hE1⟩; have hcv := conv_view (hE1.views 0 rfl) Hd5.out.symm))
                  obtain ⟨gm, rfl, _, _⟩ := hE1.rowIs (j + 4) (HP.out _ _ _ _) h0
                  clear hcv
                  go_loopw [21, 22] (fun b t wr => KFind mxs d0 (view (.slice (some ⟨q, 0, none⟩) 512 512) 512 (bvals d0) :: disk p s2 :: rowMx n bm (ms.map MRow.v) :: rowNx n bn (now.map strv) :: (ms.map MRow.piece ++ l)) b t wr) (fun _ t _ => mxs.length - (intOf t).toNat)
                  case atStart => exact ⟨0, false, Nat.zero_le _, rfl, rfl, fun u hu => by omega, hE1⟩
                  case round =>
                    clear hE1
                    obtain ⟨t, f, ht, rfl, rfl, hf, hE⟩ := hrel
                    have Hf := SL.hid hf
                    clear hf
                    have c0 := hE.rowCell 2 rfl HV.out
                    by_cases htl : t < mxs.length
                    · have c1 := hE.rowCell (j + 4) (HP.out _ _ _ _) (strs_cell (k := t) htl)
                      generalize hx1 : mxs.getD t [] = x1 at c1
                      have Hx1 := SL.hid hx1
                      clear hx1
                      cases f with
                      | true =>
                        go_wp2_with (first | go_skip)
                        go_roundw
                        case rel => exact ⟨t + 1, true, htl, by simp, by simp, fun _ _ _ => rfl, hE⟩
                        case measure => simp [intOf]; omega
                      | false =>
                        by_cases he : x1 = d0
                        · subst he
                          go_wp2_with (first | go_skip)
                          go_roundw
                          case rel => exact ⟨t + 1, true, htl, by simp, by simp, fun _ _ _ => rfl, hE⟩
                          case measure => simp [intOf]; omega
                        · have hne : ¬ (⟨x1.toArray⟩ : ByteArray) = ⟨d0.toArray⟩ := fun h => he (by have := congrArg (fun b : ByteArray => b.data.toList) h; simpa using this)
                          have Hne := SL.hid he
                          clear he
                          go_wp2_with (first | go_skip)
                          go_roundw
                          case rel =>
                            refine ⟨t + 1, false, htl, by simp, by simp [Hne.out], fun u hu hx => ?_, hE⟩
                            by_cases hut : u = t
                            · subst hut
                              exact absurd (Hx1.out.symm.trans hx) Hne.out
                            · exact Hf.out u (by omega) hx
                          case measure => simp [intOf]; omega
                    · obtain rfl : f = true := by
                        obtain ⟨u, hu, hx⟩ := List.getElem_of_mem Hmx.out
                        exact Hf.out u (by omega) (by rw [List.getD_eq_getElem?_getD, List.getElem?_eq_getElem hu, hx]; rfl)
                      have hE2 := hE.tail
                      clear hE
                      cases died with
                      | false =>
                        go_wp2_with (first | go_skip)
                        go_roundw
                        case rel => exact ⟨j + 1, ms, now, hjn, by simp, Hmn.out, Hnn.out, Hmem.out, Hst.out, (fun h => nomatch h), Hml.out, hE2⟩
                        case measure => simp [intOf]; omega
                      | true =>
                        go_wp2_with (first
                          | go_skip
                          | (with_reducible (show Go.wpList _ _ _ (Go.Oper.mk _ (.store _ _ _) _ _ _ _ :: _) _ _); refine wpl_storeRow hE2 2 (v := .string ⟨d0.toArray⟩) rfl rfl rfl rfl rfl Try.sizeOf9 (ys := [.string ⟨d0.toArray⟩]) rfl rfl (by simp [Value.oneCell']) (by omega) ?_; clear hE2 c0; intro w5 hE3; simp only [List.set_cons_succ, List.set_cons_zero] at hE3; rw [splice_strs _ (by rw [Hnn.out]; exact hjn)] at hE3)
                          | (with_reducible (show Go.wpList _ _ _ (Go.Oper.mk _ (.store _ _ _) _ _ _ _ :: _) _ _); refine wpl_storeRow (row_one d0 hE3) 2 rfl rfl rfl rfl rfl Try.sizeOf58 (ys := [MRow.v ⟨some ⟨w5.heap.size, 0, none⟩, 1, [d0]⟩]) rfl rfl (by simp [MRow.v, Value.oneCell']) (by omega) ?_; clear hE3; intro w6 hE4; simp only [List.set_cons_succ, List.set_cons_zero] at hE4; rw [splice_mrow _ Hjm.out] at hE4; have hE5 := piece_new (F := [_, _]) Hjm.out _ hE4; clear hE4; simp only [List.cons_append, List.nil_append] at hE5))
                        go_roundw
                        case rel =>
                          refine ⟨j + 1, ms.set j ⟨some ⟨w5.heap.size, 0, none⟩, 1, [d0]⟩, now.set j d0, hjn, by simp, by rw [List.length_set]; exact Hmn.out, by rw [List.length_set]; exact Hnn.out, ?_, (fun h => nomatch h), ?_, all_len Hml.out (by simp), hE5⟩
                          · intro t ht
                            rw [List.map_set, getD_setM _ _ _ _ (by rw [List.length_map, Hmn.out]; exact ht)]
                            split
                            · rename_i e
                              rw [← e, Hd0.out]
                              simp
                            · exact Hmem.out t ht
                          · intro _ t ht
                            rw [getD_set _ _ _ _ (by rw [Hnn.out]; omega)]
                            split
                            · rename_i e
                              rw [← e, Hd0.out]
                            · exact Hdj.out rfl t (by omega)
                        case measure => simp [intOf]; omega
                · obtain rfl : j = n := by omega
                  go_wp2_with (first | go_skip)
                  go_roundw
                  case rel =>
                    refine ⟨k + 1, s2, ms, now, hkx, by simp, hg2, Hon2.out, hw2, ?_, Hml.out, hE⟩
                    cases died with
                    | false => exact Hst.out rfl
                    | true => exact DKeeps.fresh (HK2.out.wait Hdd.out) (by rw [List.length_map, Hmn.out, Hon2.out]) (by rw [Hnn.out, Hon2.out]) (fun t ht => Hmem.out t (by rw [← Hon2.out]; exact ht)) (fun t ht => Hdj.out rfl t (by rw [← Hon2.out]; exact ht))
                  case measure => simp [intOf]; omega
        · obtain rfl : k = xs.length := by omega
          go_wp2_with (first
            | go_skip
            | (go_at_call 31; have H := wakes4_any hE; refine H.mono ?_; clear H hE; rintro e w9 ⟨v, rfl, rfl, hE8⟩))
          go_ret
          exact ⟨_, rfl, rfl, hE8.tail.tail.tail.drop⟩
end Go.Proofs.Ytpchnmcofkffiaa
