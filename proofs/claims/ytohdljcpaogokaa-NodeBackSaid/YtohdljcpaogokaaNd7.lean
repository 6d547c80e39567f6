/-
  May a node be? As the document tells it. Printed by gen_nd7.py.
-/
import Derived.Test.YtohdljcpaogokaaNd6
namespace Go.Proofs.Ytohdljcpaogokaa
open Go.RowKit Go.SL

theorem wideL_snoc {ks : List (List UInt8)} {k : Nat} (h : k < ks.length) (n : Int) : wideL (ks.take (k + 1)) n = (wideL (ks.take k) n && ((ks[k].length : Int) == n)) := by
  rw [List.take_succ_eq_append_getElem h, wideL, List.all_append]
  simp [wideL]
theorem wideL_not {ks : List (List UInt8)} {k : Nat} (h : k < ks.length) {n : Int} (hn : ((ks[k].length : Int) == n) = false) : wideL ks n = false := by
  rw [wideL, List.all_eq_false]
  exact ⟨_, List.getElem_mem h, by rw [hn]; simp⟩
theorem kids_snoc {ks : List Int} {k : Nat} (h : k < ks.length) : (ks.take (k + 1)).all kidOk = ((ks.take k).all kidOk && kidOk ks[k]) := by
  rw [List.take_succ_eq_append_getElem h, List.all_append]
  simp
theorem kids_not {ks : List Int} {k : Nat} (h : k < ks.length) (hn : kidOk ks[k] = false) : ks.all kidOk = false := by
  rw [List.all_eq_false]
  exact ⟨_, List.getElem_mem h, by rw [hn]; simp⟩
def RM1 (kw : Int) (ks : List (List UInt8)) (l : List HProp) (i : Value) (wr : World) : Prop := ∃ k : Nat, k ≤ ks.length ∧ i = .int .i64 k ∧ (rises ks k = true ∧ wideL (ks.take k) kw = true) ∧ Ent l wr
def RM2 (vw : Int) (vs : List (List UInt8)) (l : List HProp) (i : Value) (wr : World) : Prop := ∃ k : Nat, k ≤ vs.length ∧ i = .int .i64 k ∧ wideL (vs.take k) vw = true ∧ Ent l wr
def RM3 (ks : List Int) (l : List HProp) (i : Value) (wr : World) : Prop := ∃ k : Nat, k ≤ ks.length ∧ i = .int .i64 k ∧ (ks.take k).all kidOk = true ∧ Ent l wr


set_option maxRecDepth 100000 in
set_option maxHeartbeats 8000000 in
attribute [-go_sem] Instr.loadAt in
theorem rmay_true {kw vw : Int} {keys vals : List (List UInt8)} {kids : List Int} {ka va ia : Option Addr} {kc vc ic : Nat} (bk : keys.length ≤ 100000) (bv : vals.length ≤ 100000) (bi : kids.length ≤ 100000) {l : List HProp} {w : World} (hE : Ent l w) (hk : Knows l (reads (.slice ka keys.length kc) keys.length (keys.map strv))) (hv : Knows l (reads (.slice va vals.length vc) vals.length (vals.map strv))) (hi : Knows l (reads (.slice ia kids.length ic) kids.length (kids.map intv))) :
    Calls Try.prog 35 #[.agg #[.int .i64 kw, .int .i64 vw], .agg #[.bool true, .slice ka keys.length kc, .slice va vals.length vc, .slice ia kids.length ic]] w (Ret fun v w' => v = .bool (mayN kw vw ⟨true, keys, vals, kids⟩) ∧ Ent l w') := by
  cases hr : rightN kw vw with
  | false =>
    have R := SL.hid (show mayN kw vw ⟨true, keys, vals, kids⟩ = false by rw [mayN, hr]; rfl)
    have Hr := SL.hid hr
    clear hr
    go_enter Try.func35, Try.ntmps35
    go_wp2_with (first
      | go_skip
      | ((with_reducible (show Go.wpList _ _ _ (Go.Oper.mk _ (.box _ (.tmp 0)) _ _ _ _ :: _) _ _)); refine wpl_box hE rfl rfl rfl ?_; clear hE; intro b2 w hE; simp only [Act.eval, Act.put, List.setIfInBounds_toArray, List.set_cons_zero, List.set_cons_succ, getD_lit, List.getD_cons_succ, List.getD_cons_zero, Value.cells] at hE)
      | ((with_reducible (show Go.wpList _ _ _ (Go.Oper.mk _ (.box _ (.tmp 1)) _ _ _ _ :: _) _ _)); refine wpl_box hE rfl rfl rfl ?_; clear hE; intro b3 w hE; simp only [Act.eval, Act.put, List.setIfInBounds_toArray, List.set_cons_zero, List.set_cons_succ, getD_lit, List.getD_cons_succ, List.getD_cons_zero, Value.cells] at hE)
      | ((with_reducible (show Go.wpList _ _ _ (Go.Oper.mk _ (.load 62 (.tmp 2)) _ _ _ _ :: _) _ _)); refine wpl_loadW hE 1 rfl rfl rfl rfl Try.isAgg62 Try.sizeOf62 (xs := [.int .i64 kw, .int .i64 vw]) rfl ?_)
      | (go_at_call 28; have H := Right_shape (kw := kw) (vw := vw) hE; rw [Hr.out] at H; refine H.mono ?_; clear H hE; rintro e w2 ⟨v, rfl, rfl, hE⟩))
    go_ret
    exact ⟨_, rfl, by rw [R.out]; rfl, hE.tail.tail⟩
  | true =>
  have hmn : mayN kw vw ⟨true, keys, vals, kids⟩ = mayB kw vw ⟨true, keys, vals, kids⟩ := by rw [mayN, hr, Bool.true_and]
  rw [hmn]
  clear hmn
  have Hr := SL.hid hr
  clear hr
  have M1 := SL.hid (mayB_rises (kw := kw) (vw := vw) (n := ⟨true, keys, vals, kids⟩))
  have M2 := SL.hid (mayB_wide (kw := kw) (vw := vw) (n := ⟨true, keys, vals, kids⟩))
  have M3 := SL.hid (mayB_rest (kw := kw) (vw := vw) (n := ⟨true, keys, vals, kids⟩))
  generalize hmb : mayB kw vw ⟨true, keys, vals, kids⟩ = mb at *
  clear hmb
  go_enter Try.func35, Try.ntmps35
  go_wp2_with (first
    | go_skip
    | ((with_reducible (show Go.wpList _ _ _ (Go.Oper.mk _ (.box _ (.tmp 0)) _ _ _ _ :: _) _ _)); refine wpl_box hE rfl rfl rfl ?_; clear hE; intro b2 w hE; simp only [Act.eval, Act.put, List.setIfInBounds_toArray, List.set_cons_zero, List.set_cons_succ, getD_lit, List.getD_cons_succ, List.getD_cons_zero, Value.cells] at hE)
    | ((with_reducible (show Go.wpList _ _ _ (Go.Oper.mk _ (.box _ (.tmp 1)) _ _ _ _ :: _) _ _)); refine wpl_box hE rfl rfl rfl ?_; clear hE; intro b3 w hE; simp only [Act.eval, Act.put, List.setIfInBounds_toArray, List.set_cons_zero, List.set_cons_succ, getD_lit, List.getD_cons_succ, List.getD_cons_zero, Value.cells] at hE)
    | ((with_reducible (show Go.wpList _ _ _ (Go.Oper.mk _ (.load 62 (.tmp 2)) _ _ _ _ :: _) _ _)); refine wpl_loadW hE 1 rfl rfl rfl rfl Try.isAgg62 Try.sizeOf62 (xs := [.int .i64 kw, .int .i64 vw]) rfl ?_)
    | (go_at_call 28; have H := Right_shape (kw := kw) (vw := vw) hE; rw [Hr.out] at H; refine H.mono ?_; clear H hE; rintro e w2 ⟨v, rfl, rfl, hE⟩))
  go_loopw [5] (fun i wr => RM1 kw keys (ndB b3 66 true keys vals kids ka va ia kc vc ic :: shB b2 62 kw vw :: l) i wr) (fun i _ => keys.length - (intOf i).toNat)
  case atStart => exact ⟨0, Nat.zero_le _, rfl, ⟨rfl, rfl⟩, hE⟩
  case round =>
    clear hE
    obtain ⟨k, hkl, rfl, ⟨hri, hwi⟩, hE⟩ := hrel
    by_cases hlt : k < keys.length
    · have Hri := SL.hid hri
      have Hwi := SL.hid hwi
      clear hri hwi
      have Hws := SL.hid (wideL_snoc hlt kw)
      have Hwn := SL.hid (wideL_not hlt (n := kw))
      have Hs := SL.hid (rises_succ keys k)
      have Hn := SL.hid (rises_not hlt)
      obtain ⟨bb, bo, rfl, _⟩ := reads_map (hk _ (hE.suf (by repeat (first | exact List.suffix_refl _ | refine List.IsSuffix.trans ?_ (List.suffix_cons _ _))))) hlt
      have Lb := SL.hid (fun W (hW : Ent l W) => show W.cell? ⟨bb, bo + k, none⟩ = some (strv keys[k]) from by
        obtain ⟨b', o', e, h⟩ := reads_map (hk _ hW) hlt
        cases e
        exact h)
      rcases k with _ | j
      · generalize keys[0] = y at *
        cases c1 : ((y.length : Int) == kw) with
        | false =>
          have c1' : ((y.length : Int) != kw) = true := by simp only [bne, c1]; rfl
          have Hz := SL.hid (show mb = false from M2.out (Hwn.out c1))
          simp only [show ((0 : Nat) : Int) = 0 from rfl] at *
          go_wp2_with (first | go_skip | ((with_reducible (show Go.wpList _ _ _ (Go.Oper.mk _ (.load _ _) _ _ _ _ :: _) _ _)); refine wpl_load1 hE 0 rfl rfl rfl rfl (by simp [go_sem]) rfl ?_))
          refine wp_region_held_drew (S := (fun w' => ((Instr.loadAt 63 (.pointer (some ⟨b3, 1, none⟩))).run Try.prog w' = .ok (.slice (some ⟨bb, bo, none⟩) keys.length kc) w') ∧ ((Instr.loadAt 3 (.pointer (some ⟨b2, 0, none⟩))).run Try.prog w' = .ok (.int .i64 kw) w') ∧ ((Instr.loadAt 9 (.pointer (some ⟨bb, bo, none⟩))).run Try.prog w' = .ok (.string ⟨y.toArray⟩) w'))) (by kernel_rfl) ⟨(atVm hE.drew (by repeat (first | exact List.Mem.head _ | refine List.Mem.tail _ ?_)) (by simp [go_sem]) rfl), (atVm hE.drew (by repeat (first | exact List.Mem.head _ | refine List.Mem.tail _ ?_)) (by simp [go_sem]) rfl), (atCell (Lb.out _ (hE.drew.suf (by repeat (first | exact List.suffix_refl _ | refine List.IsSuffix.trans ?_ (List.suffix_cons _ _))))) (by simp [go_sem]))⟩ (fun hS => ?_)
          refine takeW 0 ⟨some 18, .fieldAddr 66 (.tmp 3) 1, 0, "ref.go:49", #[], none⟩ ?_ (.inl ⟨by rfl, ?_⟩) hS ?_
          rotate_left
          · (intro w hSw; (try dsimp only at hSw); go_simp; (try with_reducible rfl))
          try simp only [Act.put, sb, s0, sz]
          refine takeW 1 ⟨some 19, .load 63 (.tmp 18), 63, "ref.go:49", #[⟨0, .data⟩], none⟩ ?_ (.inl ⟨by rfl, ?_⟩) hS ?_
          rotate_left
          · (intro w hSw; (try dsimp only at hSw); go_simp; (try with_reducible rfl))
          try simp only [Act.put, sb, s0, sz]
          refine takeW 2 ⟨some 20, .move (.tmp 5), 3, "ref.go:49", #[], none⟩ ?_ (.inl ⟨by rfl, ?_⟩) hS ?_
          rotate_left
          · (intro w hSw; (try dsimp only at hSw); go_simp; (try with_reducible rfl))
          try simp only [Act.put, sb, s0, sz]
          refine takeW 3 ⟨some 21, .indexAddr 63 (.tmp 19) (.tmp 20), 0, "ref.go:49", #[⟨1, .data⟩, ⟨2, .data⟩], none⟩ ?_ (.inl ⟨by rfl, ?_⟩) hS ?_
          rotate_left
          · (intro w hSw; (try dsimp only at hSw); go_simp; (try with_reducible rfl))
          try simp only [Act.put, sb, s0, sz]
          refine takeW 4 ⟨some 22, .load 9 (.tmp 21), 9, "ref.go:49", #[⟨3, .data⟩], none⟩ ?_ (.inl ⟨by rfl, ?_⟩) hS ?_
          rotate_left
          · (intro w hSw; (try dsimp only at hSw); go_simp; (try with_reducible rfl))
          try simp only [Act.put, sb, s0, sz]
          refine takeW 5 ⟨some 23, .call { callee := .builtin .len, args := #[.tmp 22], argTypes := #[9] }, 3, "ref.go:49", #[⟨4, .data⟩], none⟩ ?_ (.inl ⟨by rfl, ?_⟩) hS ?_
          rotate_left
          · (intro w hSw; (try dsimp only at hSw); go_simp; (try with_reducible rfl))
          try simp only [Act.put, sb, s0, sz]
          refine takeW 6 ⟨some 24, .fieldAddr 62 (.tmp 2) 0, 0, "ref.go:49", #[], none⟩ ?_ (.inl ⟨by rfl, ?_⟩) hS ?_
          rotate_left
          · (intro w hSw; (try dsimp only at hSw); go_simp; (try with_reducible rfl))
          try simp only [Act.put, sb, s0, sz]
          refine takeW 7 ⟨some 25, .load 3 (.tmp 24), 3, "ref.go:49", #[⟨6, .data⟩], none⟩ ?_ (.inl ⟨by rfl, ?_⟩) hS ?_
          rotate_left
          · (intro w hSw; (try dsimp only at hSw); go_simp; (try with_reducible rfl))
          try simp only [Act.put, sb, s0, sz]
          refine takeW 8 ⟨some 26, .binOp .neq 3 (.tmp 23) (.tmp 25) 3, 4, "ref.go:49", #[⟨5, .data⟩, ⟨7, .data⟩], none⟩ ?_ (.inl ⟨by rfl, ?_⟩) hS ?_
          rotate_left
          · (intro w hSw; (try dsimp only at hSw); go_simp; (try with_reducible rfl))
          try simp only [Act.put, sb, s0, sz]
          refine takeW 9 ⟨some 27, .move (.tmp 26), 4, "ref.go:49", #[⟨8, .data⟩], none⟩ ?_ (.inl ⟨by rfl, ?_⟩) hS ?_
          rotate_left
          · (intro w hSw; (try dsimp only at hSw); go_simp; (try with_reducible rfl))
          try simp only [Act.put, sb, s0, sz]
          refine takeW 10 ⟨some 28, .move (.tmp 5), 3, "ref.go:49", #[⟨9, .guard⟩], some (9, false)⟩ undef (.inr ⟨by rfl, rfl⟩) hS ?_; try simp only [Act.put, sb, s0, sz]
          refine takeW 11 ⟨some 29, .binOp .gtr 3 (.tmp 28) (.const (.int .i64 0)) 3, 4, "ref.go:49", #[⟨10, .data⟩, ⟨9, .guard⟩], some (9, false)⟩ undef (.inr ⟨by rfl, rfl⟩) hS ?_; try simp only [Act.put, sb, s0, sz]
          refine takeW 12 ⟨some 30, .move (.tmp 29), 4, "ref.go:49", #[⟨11, .data⟩, ⟨9, .chain⟩, ⟨9, .guard⟩], some (9, false)⟩ undef (.inr ⟨by rfl, rfl⟩) hS ?_; try simp only [Act.put, sb, s0, sz]
          refine takeW 13 ⟨some 31, .fieldAddr 66 (.tmp 3) 1, 0, "ref.go:49", #[⟨12, .guard⟩], some (12, true)⟩ undef (.inr ⟨by rfl, rfl⟩) hS ?_; try simp only [Act.put, sb, s0, sz]
          refine takeW 14 ⟨some 32, .load 63 (.tmp 31), 63, "ref.go:49", #[⟨13, .data⟩, ⟨12, .guard⟩], some (12, true)⟩ undef (.inr ⟨by rfl, rfl⟩) hS ?_; try simp only [Act.put, sb, s0, sz]
          refine takeW 15 ⟨some 33, .move (.tmp 5), 3, "ref.go:49", #[⟨12, .guard⟩], some (12, true)⟩ undef (.inr ⟨by rfl, rfl⟩) hS ?_; try simp only [Act.put, sb, s0, sz]
          refine takeW 16 ⟨some 34, .binOp .sub 3 (.tmp 33) (.const (.int .i64 1)) 3, 3, "ref.go:49", #[⟨15, .data⟩, ⟨12, .guard⟩], some (12, true)⟩ undef (.inr ⟨by rfl, rfl⟩) hS ?_; try simp only [Act.put, sb, s0, sz]
          refine takeW 17 ⟨some 35, .indexAddr 63 (.tmp 32) (.tmp 34), 0, "ref.go:49", #[⟨14, .data⟩, ⟨16, .data⟩, ⟨12, .guard⟩], some (12, true)⟩ undef (.inr ⟨by rfl, rfl⟩) hS ?_; try simp only [Act.put, sb, s0, sz]
          refine takeW 18 ⟨some 36, .load 9 (.tmp 35), 9, "ref.go:49", #[⟨17, .data⟩, ⟨12, .guard⟩], some (12, true)⟩ undef (.inr ⟨by rfl, rfl⟩) hS ?_; try simp only [Act.put, sb, s0, sz]
          refine takeW 19 ⟨some 37, .fieldAddr 66 (.tmp 3) 1, 0, "ref.go:49", #[⟨12, .guard⟩], some (12, true)⟩ undef (.inr ⟨by rfl, rfl⟩) hS ?_; try simp only [Act.put, sb, s0, sz]
          refine takeW 20 ⟨some 38, .load 63 (.tmp 37), 63, "ref.go:49", #[⟨19, .data⟩, ⟨12, .guard⟩], some (12, true)⟩ undef (.inr ⟨by rfl, rfl⟩) hS ?_; try simp only [Act.put, sb, s0, sz]
          refine takeW 21 ⟨some 39, .move (.tmp 5), 3, "ref.go:49", #[⟨12, .guard⟩], some (12, true)⟩ undef (.inr ⟨by rfl, rfl⟩) hS ?_; try simp only [Act.put, sb, s0, sz]
          refine takeW 22 ⟨some 40, .indexAddr 63 (.tmp 38) (.tmp 39), 0, "ref.go:49", #[⟨20, .data⟩, ⟨21, .data⟩, ⟨12, .guard⟩], some (12, true)⟩ undef (.inr ⟨by rfl, rfl⟩) hS ?_; try simp only [Act.put, sb, s0, sz]
          refine takeW 23 ⟨some 41, .load 9 (.tmp 40), 9, "ref.go:49", #[⟨22, .data⟩, ⟨12, .guard⟩], some (12, true)⟩ undef (.inr ⟨by rfl, rfl⟩) hS ?_; try simp only [Act.put, sb, s0, sz]
          refine takeW 24 ⟨some 42, .binOp .geq 9 (.tmp 36) (.tmp 41) 9, 4, "ref.go:49", #[⟨18, .data⟩, ⟨23, .data⟩, ⟨12, .guard⟩], some (12, true)⟩ undef (.inr ⟨by rfl, rfl⟩) hS ?_; try simp only [Act.put, sb, s0, sz]
          refine takeW 25 ⟨some 43, .pick (.tmp 30) (.tmp 42) (.const (.bool false)), 4, "ref.go:49", #[⟨12, .data⟩, ⟨24, .data⟩, ⟨9, .guard⟩], some (9, false)⟩ undef (.inr ⟨by rfl, rfl⟩) hS ?_; try simp only [Act.put, sb, s0, sz]
          refine takeW 26 ⟨some 44, .pick (.tmp 27) (.const (.bool true)) (.tmp 43), 4, "ref.go:49", #[⟨9, .data⟩, ⟨25, .data⟩], none⟩ ?_ (.inl ⟨by rfl, ?_⟩) hS ?_
          rotate_left
          · (intro w hSw; (try dsimp only at hSw); go_simp; (try with_reducible rfl))
          try simp only [Act.put, sb, s0, sz]
          refine wpAnyH_done (by kernel_rfl) ?_ _
          go_wp2
          go_ret
          exact ⟨_, rfl, by rw [Hz.out]; rfl, hE.drew.tail.tail⟩
        | true =>
          have c1' : ((y.length : Int) != kw) = false := by simp only [bne, c1]; rfl
          have Hz := SL.hid (show rises keys (0 + 1) = true ∧ wideL (keys.take (0 + 1)) kw = true from ⟨by rw [Hs.out, Hri.out]; rfl, by rw [Hws.out, Hwi.out, c1]; rfl⟩)
          simp only [show ((0 : Nat) : Int) = 0 from rfl] at *
          go_wp2_with (first | go_skip | ((with_reducible (show Go.wpList _ _ _ (Go.Oper.mk _ (.load _ _) _ _ _ _ :: _) _ _)); refine wpl_load1 hE 0 rfl rfl rfl rfl (by simp [go_sem]) rfl ?_))
          refine wp_region_held_drew (S := (fun w' => ((Instr.loadAt 63 (.pointer (some ⟨b3, 1, none⟩))).run Try.prog w' = .ok (.slice (some ⟨bb, bo, none⟩) keys.length kc) w') ∧ ((Instr.loadAt 3 (.pointer (some ⟨b2, 0, none⟩))).run Try.prog w' = .ok (.int .i64 kw) w') ∧ ((Instr.loadAt 9 (.pointer (some ⟨bb, bo, none⟩))).run Try.prog w' = .ok (.string ⟨y.toArray⟩) w'))) (by kernel_rfl) ⟨(atVm hE.drew (by repeat (first | exact List.Mem.head _ | refine List.Mem.tail _ ?_)) (by simp [go_sem]) rfl), (atVm hE.drew (by repeat (first | exact List.Mem.head _ | refine List.Mem.tail _ ?_)) (by simp [go_sem]) rfl), (atCell (Lb.out _ (hE.drew.suf (by repeat (first | exact List.suffix_refl _ | refine List.IsSuffix.trans ?_ (List.suffix_cons _ _))))) (by simp [go_sem]))⟩ (fun hS => ?_)
          refine takeW 0 ⟨some 18, .fieldAddr 66 (.tmp 3) 1, 0, "ref.go:49", #[], none⟩ ?_ (.inl ⟨by rfl, ?_⟩) hS ?_
          rotate_left
          · (intro w hSw; (try dsimp only at hSw); go_simp; (try with_reducible rfl))
          try simp only [Act.put, sb, s0, sz]
          refine takeW 1 ⟨some 19, .load 63 (.tmp 18), 63, "ref.go:49", #[⟨0, .data⟩], none⟩ ?_ (.inl ⟨by rfl, ?_⟩) hS ?_
          rotate_left
          · (intro w hSw; (try dsimp only at hSw); go_simp; (try with_reducible rfl))
          try simp only [Act.put, sb, s0, sz]
          refine takeW 2 ⟨some 20, .move (.tmp 5), 3, "ref.go:49", #[], none⟩ ?_ (.inl ⟨by rfl, ?_⟩) hS ?_
          rotate_left
          · (intro w hSw; (try dsimp only at hSw); go_simp; (try with_reducible rfl))
          try simp only [Act.put, sb, s0, sz]
          refine takeW 3 ⟨some 21, .indexAddr 63 (.tmp 19) (.tmp 20), 0, "ref.go:49", #[⟨1, .data⟩, ⟨2, .data⟩], none⟩ ?_ (.inl ⟨by rfl, ?_⟩) hS ?_
          rotate_left
          · (intro w hSw; (try dsimp only at hSw); go_simp; (try with_reducible rfl))
          try simp only [Act.put, sb, s0, sz]
          refine takeW 4 ⟨some 22, .load 9 (.tmp 21), 9, "ref.go:49", #[⟨3, .data⟩], none⟩ ?_ (.inl ⟨by rfl, ?_⟩) hS ?_
          rotate_left
          · (intro w hSw; (try dsimp only at hSw); go_simp; (try with_reducible rfl))
          try simp only [Act.put, sb, s0, sz]
          refine takeW 5 ⟨some 23, .call { callee := .builtin .len, args := #[.tmp 22], argTypes := #[9] }, 3, "ref.go:49", #[⟨4, .data⟩], none⟩ ?_ (.inl ⟨by rfl, ?_⟩) hS ?_
          rotate_left
          · (intro w hSw; (try dsimp only at hSw); go_simp; (try with_reducible rfl))
          try simp only [Act.put, sb, s0, sz]
          refine takeW 6 ⟨some 24, .fieldAddr 62 (.tmp 2) 0, 0, "ref.go:49", #[], none⟩ ?_ (.inl ⟨by rfl, ?_⟩) hS ?_
          rotate_left
          · (intro w hSw; (try dsimp only at hSw); go_simp; (try with_reducible rfl))
          try simp only [Act.put, sb, s0, sz]
          refine takeW 7 ⟨some 25, .load 3 (.tmp 24), 3, "ref.go:49", #[⟨6, .data⟩], none⟩ ?_ (.inl ⟨by rfl, ?_⟩) hS ?_
          rotate_left
          · (intro w hSw; (try dsimp only at hSw); go_simp; (try with_reducible rfl))
          try simp only [Act.put, sb, s0, sz]
          refine takeW 8 ⟨some 26, .binOp .neq 3 (.tmp 23) (.tmp 25) 3, 4, "ref.go:49", #[⟨5, .data⟩, ⟨7, .data⟩], none⟩ ?_ (.inl ⟨by rfl, ?_⟩) hS ?_
          rotate_left
          · (intro w hSw; (try dsimp only at hSw); go_simp; (try with_reducible rfl))
          try simp only [Act.put, sb, s0, sz]
          refine takeW 9 ⟨some 27, .move (.tmp 26), 4, "ref.go:49", #[⟨8, .data⟩], none⟩ ?_ (.inl ⟨by rfl, ?_⟩) hS ?_
          rotate_left
          · (intro w hSw; (try dsimp only at hSw); go_simp; (try with_reducible rfl))
          try simp only [Act.put, sb, s0, sz]
          refine takeW 10 ⟨some 28, .move (.tmp 5), 3, "ref.go:49", #[⟨9, .guard⟩], some (9, false)⟩ ?_ (.inl ⟨by rfl, ?_⟩) hS ?_
          rotate_left
          · (intro w hSw; (try dsimp only at hSw); go_simp; (try with_reducible rfl))
          try simp only [Act.put, sb, s0, sz]
          refine takeW 11 ⟨some 29, .binOp .gtr 3 (.tmp 28) (.const (.int .i64 0)) 3, 4, "ref.go:49", #[⟨10, .data⟩, ⟨9, .guard⟩], some (9, false)⟩ ?_ (.inl ⟨by rfl, ?_⟩) hS ?_
          rotate_left
          · (intro w hSw; (try dsimp only at hSw); go_simp; (try with_reducible rfl))
          try simp only [Act.put, sb, s0, sz]
          refine takeW 12 ⟨some 30, .move (.tmp 29), 4, "ref.go:49", #[⟨11, .data⟩, ⟨9, .chain⟩, ⟨9, .guard⟩], some (9, false)⟩ ?_ (.inl ⟨by rfl, ?_⟩) hS ?_
          rotate_left
          · (intro w hSw; (try dsimp only at hSw); go_simp; (try with_reducible rfl))
          try simp only [Act.put, sb, s0, sz]
          refine takeW 13 ⟨some 31, .fieldAddr 66 (.tmp 3) 1, 0, "ref.go:49", #[⟨12, .guard⟩], some (12, true)⟩ undef (.inr ⟨by rfl, rfl⟩) hS ?_; try simp only [Act.put, sb, s0, sz]
          refine takeW 14 ⟨some 32, .load 63 (.tmp 31), 63, "ref.go:49", #[⟨13, .data⟩, ⟨12, .guard⟩], some (12, true)⟩ undef (.inr ⟨by rfl, rfl⟩) hS ?_; try simp only [Act.put, sb, s0, sz]
          refine takeW 15 ⟨some 33, .move (.tmp 5), 3, "ref.go:49", #[⟨12, .guard⟩], some (12, true)⟩ undef (.inr ⟨by rfl, rfl⟩) hS ?_; try simp only [Act.put, sb, s0, sz]
          refine takeW 16 ⟨some 34, .binOp .sub 3 (.tmp 33) (.const (.int .i64 1)) 3, 3, "ref.go:49", #[⟨15, .data⟩, ⟨12, .guard⟩], some (12, true)⟩ undef (.inr ⟨by rfl, rfl⟩) hS ?_; try simp only [Act.put, sb, s0, sz]
          refine takeW 17 ⟨some 35, .indexAddr 63 (.tmp 32) (.tmp 34), 0, "ref.go:49", #[⟨14, .data⟩, ⟨16, .data⟩, ⟨12, .guard⟩], some (12, true)⟩ undef (.inr ⟨by rfl, rfl⟩) hS ?_; try simp only [Act.put, sb, s0, sz]
          refine takeW 18 ⟨some 36, .load 9 (.tmp 35), 9, "ref.go:49", #[⟨17, .data⟩, ⟨12, .guard⟩], some (12, true)⟩ undef (.inr ⟨by rfl, rfl⟩) hS ?_; try simp only [Act.put, sb, s0, sz]
          refine takeW 19 ⟨some 37, .fieldAddr 66 (.tmp 3) 1, 0, "ref.go:49", #[⟨12, .guard⟩], some (12, true)⟩ undef (.inr ⟨by rfl, rfl⟩) hS ?_; try simp only [Act.put, sb, s0, sz]
          refine takeW 20 ⟨some 38, .load 63 (.tmp 37), 63, "ref.go:49", #[⟨19, .data⟩, ⟨12, .guard⟩], some (12, true)⟩ undef (.inr ⟨by rfl, rfl⟩) hS ?_; try simp only [Act.put, sb, s0, sz]
          refine takeW 21 ⟨some 39, .move (.tmp 5), 3, "ref.go:49", #[⟨12, .guard⟩], some (12, true)⟩ undef (.inr ⟨by rfl, rfl⟩) hS ?_; try simp only [Act.put, sb, s0, sz]
          refine takeW 22 ⟨some 40, .indexAddr 63 (.tmp 38) (.tmp 39), 0, "ref.go:49", #[⟨20, .data⟩, ⟨21, .data⟩, ⟨12, .guard⟩], some (12, true)⟩ undef (.inr ⟨by rfl, rfl⟩) hS ?_; try simp only [Act.put, sb, s0, sz]
          refine takeW 23 ⟨some 41, .load 9 (.tmp 40), 9, "ref.go:49", #[⟨22, .data⟩, ⟨12, .guard⟩], some (12, true)⟩ undef (.inr ⟨by rfl, rfl⟩) hS ?_; try simp only [Act.put, sb, s0, sz]
          refine takeW 24 ⟨some 42, .binOp .geq 9 (.tmp 36) (.tmp 41) 9, 4, "ref.go:49", #[⟨18, .data⟩, ⟨23, .data⟩, ⟨12, .guard⟩], some (12, true)⟩ undef (.inr ⟨by rfl, rfl⟩) hS ?_; try simp only [Act.put, sb, s0, sz]
          refine takeW 25 ⟨some 43, .pick (.tmp 30) (.tmp 42) (.const (.bool false)), 4, "ref.go:49", #[⟨12, .data⟩, ⟨24, .data⟩, ⟨9, .guard⟩], some (9, false)⟩ ?_ (.inl ⟨by rfl, ?_⟩) hS ?_
          rotate_left
          · (intro w hSw; (try dsimp only at hSw); go_simp; (try with_reducible rfl))
          try simp only [Act.put, sb, s0, sz]
          refine takeW 26 ⟨some 44, .pick (.tmp 27) (.const (.bool true)) (.tmp 43), 4, "ref.go:49", #[⟨9, .data⟩, ⟨25, .data⟩], none⟩ ?_ (.inl ⟨by rfl, ?_⟩) hS ?_
          rotate_left
          · (intro w hSw; (try dsimp only at hSw); go_simp; (try with_reducible rfl))
          try simp only [Act.put, sb, s0, sz]
          refine wpAnyH_done (by kernel_rfl) ?_ _
          go_wp2
          go_roundw
          case rel => exact ⟨0 + 1, by omega, by first | rfl | simp, Hz.out, hE.drew⟩
          case measure => simp [intOf] <;> omega
      · have hj : j < keys.length := by omega
        have Hro := SL.hid (riseOk_at hlt)
        have La := SL.hid (fun W (hW : Ent l W) => show W.cell? ⟨bb, bo + j, none⟩ = some (strv keys[j]) from by
          obtain ⟨b', o', e, h⟩ := reads_map (hk _ hW) hj
          cases e
          exact h)
        have hw9 : IntKind.i64.wrap ((j : Int) + 1 - 1) = (j : Int) := by rw [wrap_id (by omega)]; omega
        have hw8 : IntKind.i64.wrap (j : Int) = (j : Int) := wrap_id (by omega)
        have hpos : decide ((0 : Int) < (j : Int) + 1) = true := decide_eq_true (by omega)
        have hk0 : (0 : Int) ≤ (j : Int) + 1 := by omega
        generalize keys[j] = x at *
        generalize keys[j + 1] = y at *
        cases c1 : ((y.length : Int) == kw) with
        | false =>
          have c1' : ((y.length : Int) != kw) = true := by simp only [bne, c1]; rfl
          have Hz := SL.hid (show mb = false from M2.out (Hwn.out c1))
          go_wp2_with (first | go_skip | ((with_reducible (show Go.wpList _ _ _ (Go.Oper.mk _ (.load _ _) _ _ _ _ :: _) _ _)); refine wpl_load1 hE 0 rfl rfl rfl rfl (by simp [go_sem]) rfl ?_))
          refine wp_region_held_drew (S := (fun w' => ((Instr.loadAt 63 (.pointer (some ⟨b3, 1, none⟩))).run Try.prog w' = .ok (.slice (some ⟨bb, bo, none⟩) keys.length kc) w') ∧ ((Instr.loadAt 3 (.pointer (some ⟨b2, 0, none⟩))).run Try.prog w' = .ok (.int .i64 kw) w') ∧ ((Instr.loadAt 9 (.pointer (some ⟨bb, bo + (j + 1), none⟩))).run Try.prog w' = .ok (.string ⟨y.toArray⟩) w'))) (by kernel_rfl) ⟨(atVm hE.drew (by repeat (first | exact List.Mem.head _ | refine List.Mem.tail _ ?_)) (by simp [go_sem]) rfl), (atVm hE.drew (by repeat (first | exact List.Mem.head _ | refine List.Mem.tail _ ?_)) (by simp [go_sem]) rfl), (atCell (Lb.out _ (hE.drew.suf (by repeat (first | exact List.suffix_refl _ | refine List.IsSuffix.trans ?_ (List.suffix_cons _ _))))) (by simp [go_sem]))⟩ (fun hS => ?_)
          refine takeW 0 ⟨some 18, .fieldAddr 66 (.tmp 3) 1, 0, "ref.go:49", #[], none⟩ ?_ (.inl ⟨by rfl, ?_⟩) hS ?_
          rotate_left
          · (intro w hSw; (try dsimp only at hSw); go_simp; (try with_reducible rfl))
          try simp only [Act.put, sb, s0, sz]
          refine takeW 1 ⟨some 19, .load 63 (.tmp 18), 63, "ref.go:49", #[⟨0, .data⟩], none⟩ ?_ (.inl ⟨by rfl, ?_⟩) hS ?_
          rotate_left
          · (intro w hSw; (try dsimp only at hSw); go_simp; (try with_reducible rfl))
          try simp only [Act.put, sb, s0, sz]
          refine takeW 2 ⟨some 20, .move (.tmp 5), 3, "ref.go:49", #[], none⟩ ?_ (.inl ⟨by rfl, ?_⟩) hS ?_
          rotate_left
          · (intro w hSw; (try dsimp only at hSw); go_simp; (try with_reducible rfl))
          try simp only [Act.put, sb, s0, sz]
          refine takeW 3 ⟨some 21, .indexAddr 63 (.tmp 19) (.tmp 20), 0, "ref.go:49", #[⟨1, .data⟩, ⟨2, .data⟩], none⟩ ?_ (.inl ⟨by rfl, ?_⟩) hS ?_
          rotate_left
          · (intro w hSw; (try dsimp only at hSw); go_simp; (try with_reducible rfl))
          try simp only [Act.put, sb, s0, sz]
          refine takeW 4 ⟨some 22, .load 9 (.tmp 21), 9, "ref.go:49", #[⟨3, .data⟩], none⟩ ?_ (.inl ⟨by rfl, ?_⟩) hS ?_
          rotate_left
          · (intro w hSw; (try dsimp only at hSw); go_simp; (try with_reducible rfl))
          try simp only [Act.put, sb, s0, sz]
          refine takeW 5 ⟨some 23, .call { callee := .builtin .len, args := #[.tmp 22], argTypes := #[9] }, 3, "ref.go:49", #[⟨4, .data⟩], none⟩ ?_ (.inl ⟨by rfl, ?_⟩) hS ?_
          rotate_left
          · (intro w hSw; (try dsimp only at hSw); go_simp; (try with_reducible rfl))
          try simp only [Act.put, sb, s0, sz]
          refine takeW 6 ⟨some 24, .fieldAddr 62 (.tmp 2) 0, 0, "ref.go:49", #[], none⟩ ?_ (.inl ⟨by rfl, ?_⟩) hS ?_
          rotate_left
          · (intro w hSw; (try dsimp only at hSw); go_simp; (try with_reducible rfl))
          try simp only [Act.put, sb, s0, sz]
          refine takeW 7 ⟨some 25, .load 3 (.tmp 24), 3, "ref.go:49", #[⟨6, .data⟩], none⟩ ?_ (.inl ⟨by rfl, ?_⟩) hS ?_
          rotate_left
          · (intro w hSw; (try dsimp only at hSw); go_simp; (try with_reducible rfl))
          try simp only [Act.put, sb, s0, sz]
          refine takeW 8 ⟨some 26, .binOp .neq 3 (.tmp 23) (.tmp 25) 3, 4, "ref.go:49", #[⟨5, .data⟩, ⟨7, .data⟩], none⟩ ?_ (.inl ⟨by rfl, ?_⟩) hS ?_
          rotate_left
          · (intro w hSw; (try dsimp only at hSw); go_simp; (try with_reducible rfl))
          try simp only [Act.put, sb, s0, sz]
          refine takeW 9 ⟨some 27, .move (.tmp 26), 4, "ref.go:49", #[⟨8, .data⟩], none⟩ ?_ (.inl ⟨by rfl, ?_⟩) hS ?_
          rotate_left
          · (intro w hSw; (try dsimp only at hSw); go_simp; (try with_reducible rfl))
          try simp only [Act.put, sb, s0, sz]
          refine takeW 10 ⟨some 28, .move (.tmp 5), 3, "ref.go:49", #[⟨9, .guard⟩], some (9, false)⟩ undef (.inr ⟨by rfl, rfl⟩) hS ?_; try simp only [Act.put, sb, s0, sz]
          refine takeW 11 ⟨some 29, .binOp .gtr 3 (.tmp 28) (.const (.int .i64 0)) 3, 4, "ref.go:49", #[⟨10, .data⟩, ⟨9, .guard⟩], some (9, false)⟩ undef (.inr ⟨by rfl, rfl⟩) hS ?_; try simp only [Act.put, sb, s0, sz]
          refine takeW 12 ⟨some 30, .move (.tmp 29), 4, "ref.go:49", #[⟨11, .data⟩, ⟨9, .chain⟩, ⟨9, .guard⟩], some (9, false)⟩ undef (.inr ⟨by rfl, rfl⟩) hS ?_; try simp only [Act.put, sb, s0, sz]
          refine takeW 13 ⟨some 31, .fieldAddr 66 (.tmp 3) 1, 0, "ref.go:49", #[⟨12, .guard⟩], some (12, true)⟩ undef (.inr ⟨by rfl, rfl⟩) hS ?_; try simp only [Act.put, sb, s0, sz]
          refine takeW 14 ⟨some 32, .load 63 (.tmp 31), 63, "ref.go:49", #[⟨13, .data⟩, ⟨12, .guard⟩], some (12, true)⟩ undef (.inr ⟨by rfl, rfl⟩) hS ?_; try simp only [Act.put, sb, s0, sz]
          refine takeW 15 ⟨some 33, .move (.tmp 5), 3, "ref.go:49", #[⟨12, .guard⟩], some (12, true)⟩ undef (.inr ⟨by rfl, rfl⟩) hS ?_; try simp only [Act.put, sb, s0, sz]
          refine takeW 16 ⟨some 34, .binOp .sub 3 (.tmp 33) (.const (.int .i64 1)) 3, 3, "ref.go:49", #[⟨15, .data⟩, ⟨12, .guard⟩], some (12, true)⟩ undef (.inr ⟨by rfl, rfl⟩) hS ?_; try simp only [Act.put, sb, s0, sz]
          refine takeW 17 ⟨some 35, .indexAddr 63 (.tmp 32) (.tmp 34), 0, "ref.go:49", #[⟨14, .data⟩, ⟨16, .data⟩, ⟨12, .guard⟩], some (12, true)⟩ undef (.inr ⟨by rfl, rfl⟩) hS ?_; try simp only [Act.put, sb, s0, sz]
          refine takeW 18 ⟨some 36, .load 9 (.tmp 35), 9, "ref.go:49", #[⟨17, .data⟩, ⟨12, .guard⟩], some (12, true)⟩ undef (.inr ⟨by rfl, rfl⟩) hS ?_; try simp only [Act.put, sb, s0, sz]
          refine takeW 19 ⟨some 37, .fieldAddr 66 (.tmp 3) 1, 0, "ref.go:49", #[⟨12, .guard⟩], some (12, true)⟩ undef (.inr ⟨by rfl, rfl⟩) hS ?_; try simp only [Act.put, sb, s0, sz]
          refine takeW 20 ⟨some 38, .load 63 (.tmp 37), 63, "ref.go:49", #[⟨19, .data⟩, ⟨12, .guard⟩], some (12, true)⟩ undef (.inr ⟨by rfl, rfl⟩) hS ?_; try simp only [Act.put, sb, s0, sz]
          refine takeW 21 ⟨some 39, .move (.tmp 5), 3, "ref.go:49", #[⟨12, .guard⟩], some (12, true)⟩ undef (.inr ⟨by rfl, rfl⟩) hS ?_; try simp only [Act.put, sb, s0, sz]
          refine takeW 22 ⟨some 40, .indexAddr 63 (.tmp 38) (.tmp 39), 0, "ref.go:49", #[⟨20, .data⟩, ⟨21, .data⟩, ⟨12, .guard⟩], some (12, true)⟩ undef (.inr ⟨by rfl, rfl⟩) hS ?_; try simp only [Act.put, sb, s0, sz]
          refine takeW 23 ⟨some 41, .load 9 (.tmp 40), 9, "ref.go:49", #[⟨22, .data⟩, ⟨12, .guard⟩], some (12, true)⟩ undef (.inr ⟨by rfl, rfl⟩) hS ?_; try simp only [Act.put, sb, s0, sz]
          refine takeW 24 ⟨some 42, .binOp .geq 9 (.tmp 36) (.tmp 41) 9, 4, "ref.go:49", #[⟨18, .data⟩, ⟨23, .data⟩, ⟨12, .guard⟩], some (12, true)⟩ undef (.inr ⟨by rfl, rfl⟩) hS ?_; try simp only [Act.put, sb, s0, sz]
          refine takeW 25 ⟨some 43, .pick (.tmp 30) (.tmp 42) (.const (.bool false)), 4, "ref.go:49", #[⟨12, .data⟩, ⟨24, .data⟩, ⟨9, .guard⟩], some (9, false)⟩ undef (.inr ⟨by rfl, rfl⟩) hS ?_; try simp only [Act.put, sb, s0, sz]
          refine takeW 26 ⟨some 44, .pick (.tmp 27) (.const (.bool true)) (.tmp 43), 4, "ref.go:49", #[⟨9, .data⟩, ⟨25, .data⟩], none⟩ ?_ (.inl ⟨by rfl, ?_⟩) hS ?_
          rotate_left
          · (intro w hSw; (try dsimp only at hSw); go_simp; (try with_reducible rfl))
          try simp only [Act.put, sb, s0, sz]
          refine wpAnyH_done (by kernel_rfl) ?_ _
          go_wp2
          go_ret
          exact ⟨_, rfl, by rw [Hz.out]; rfl, hE.drew.tail.tail⟩
        | true =>
          have c1' : ((y.length : Int) != kw) = false := by simp only [bne, c1]; rfl
          cases c2 : Op.bytesLess x y with
          | false =>
            have Hz := SL.hid (show mb = false from M1.out (Hn.out (by rw [Hro.out, c2])))
            go_wp2_with (first | go_skip | ((with_reducible (show Go.wpList _ _ _ (Go.Oper.mk _ (.load _ _) _ _ _ _ :: _) _ _)); refine wpl_load1 hE 0 rfl rfl rfl rfl (by simp [go_sem]) rfl ?_))
            refine wp_region_held_drew (S := (fun w' => ((Instr.loadAt 63 (.pointer (some ⟨b3, 1, none⟩))).run Try.prog w' = .ok (.slice (some ⟨bb, bo, none⟩) keys.length kc) w') ∧ ((Instr.loadAt 3 (.pointer (some ⟨b2, 0, none⟩))).run Try.prog w' = .ok (.int .i64 kw) w') ∧ ((Instr.loadAt 9 (.pointer (some ⟨bb, bo + j, none⟩))).run Try.prog w' = .ok (.string ⟨x.toArray⟩) w') ∧ ((Instr.loadAt 9 (.pointer (some ⟨bb, bo + (j + 1), none⟩))).run Try.prog w' = .ok (.string ⟨y.toArray⟩) w'))) (by kernel_rfl) ⟨(atVm hE.drew (by repeat (first | exact List.Mem.head _ | refine List.Mem.tail _ ?_)) (by simp [go_sem]) rfl), (atVm hE.drew (by repeat (first | exact List.Mem.head _ | refine List.Mem.tail _ ?_)) (by simp [go_sem]) rfl), (atCell (La.out _ (hE.drew.suf (by repeat (first | exact List.suffix_refl _ | refine List.IsSuffix.trans ?_ (List.suffix_cons _ _))))) (by simp [go_sem])), (atCell (Lb.out _ (hE.drew.suf (by repeat (first | exact List.suffix_refl _ | refine List.IsSuffix.trans ?_ (List.suffix_cons _ _))))) (by simp [go_sem]))⟩ (fun hS => ?_)
            refine takeW 0 ⟨some 18, .fieldAddr 66 (.tmp 3) 1, 0, "ref.go:49", #[], none⟩ ?_ (.inl ⟨by rfl, ?_⟩) hS ?_
            rotate_left
            · (intro w hSw; (try dsimp only at hSw); go_simp; (try with_reducible rfl))
            try simp only [Act.put, sb, s0, sz]
            refine takeW 1 ⟨some 19, .load 63 (.tmp 18), 63, "ref.go:49", #[⟨0, .data⟩], none⟩ ?_ (.inl ⟨by rfl, ?_⟩) hS ?_
            rotate_left
            · (intro w hSw; (try dsimp only at hSw); go_simp; (try with_reducible rfl))
            try simp only [Act.put, sb, s0, sz]
            refine takeW 2 ⟨some 20, .move (.tmp 5), 3, "ref.go:49", #[], none⟩ ?_ (.inl ⟨by rfl, ?_⟩) hS ?_
            rotate_left
            · (intro w hSw; (try dsimp only at hSw); go_simp; (try with_reducible rfl))
            try simp only [Act.put, sb, s0, sz]
            refine takeW 3 ⟨some 21, .indexAddr 63 (.tmp 19) (.tmp 20), 0, "ref.go:49", #[⟨1, .data⟩, ⟨2, .data⟩], none⟩ ?_ (.inl ⟨by rfl, ?_⟩) hS ?_
            rotate_left
            · (intro w hSw; (try dsimp only at hSw); go_simp; (try with_reducible rfl))
            try simp only [Act.put, sb, s0, sz]
            refine takeW 4 ⟨some 22, .load 9 (.tmp 21), 9, "ref.go:49", #[⟨3, .data⟩], none⟩ ?_ (.inl ⟨by rfl, ?_⟩) hS ?_
            rotate_left
            · (intro w hSw; (try dsimp only at hSw); go_simp; (try with_reducible rfl))
            try simp only [Act.put, sb, s0, sz]
            refine takeW 5 ⟨some 23, .call { callee := .builtin .len, args := #[.tmp 22], argTypes := #[9] }, 3, "ref.go:49", #[⟨4, .data⟩], none⟩ ?_ (.inl ⟨by rfl, ?_⟩) hS ?_
            rotate_left
            · (intro w hSw; (try dsimp only at hSw); go_simp; (try with_reducible rfl))
            try simp only [Act.put, sb, s0, sz]
            refine takeW 6 ⟨some 24, .fieldAddr 62 (.tmp 2) 0, 0, "ref.go:49", #[], none⟩ ?_ (.inl ⟨by rfl, ?_⟩) hS ?_
            rotate_left
            · (intro w hSw; (try dsimp only at hSw); go_simp; (try with_reducible rfl))
            try simp only [Act.put, sb, s0, sz]
            refine takeW 7 ⟨some 25, .load 3 (.tmp 24), 3, "ref.go:49", #[⟨6, .data⟩], none⟩ ?_ (.inl ⟨by rfl, ?_⟩) hS ?_
            rotate_left
            · (intro w hSw; (try dsimp only at hSw); go_simp; (try with_reducible rfl))
            try simp only [Act.put, sb, s0, sz]
            refine takeW 8 ⟨some 26, .binOp .neq 3 (.tmp 23) (.tmp 25) 3, 4, "ref.go:49", #[⟨5, .data⟩, ⟨7, .data⟩], none⟩ ?_ (.inl ⟨by rfl, ?_⟩) hS ?_
            rotate_left
            · (intro w hSw; (try dsimp only at hSw); go_simp; (try with_reducible rfl))
            try simp only [Act.put, sb, s0, sz]
            refine takeW 9 ⟨some 27, .move (.tmp 26), 4, "ref.go:49", #[⟨8, .data⟩], none⟩ ?_ (.inl ⟨by rfl, ?_⟩) hS ?_
            rotate_left
            · (intro w hSw; (try dsimp only at hSw); go_simp; (try with_reducible rfl))
            try simp only [Act.put, sb, s0, sz]
            refine takeW 10 ⟨some 28, .move (.tmp 5), 3, "ref.go:49", #[⟨9, .guard⟩], some (9, false)⟩ ?_ (.inl ⟨by rfl, ?_⟩) hS ?_
            rotate_left
            · (intro w hSw; (try dsimp only at hSw); go_simp; (try with_reducible rfl))
            try simp only [Act.put, sb, s0, sz]
            refine takeW 11 ⟨some 29, .binOp .gtr 3 (.tmp 28) (.const (.int .i64 0)) 3, 4, "ref.go:49", #[⟨10, .data⟩, ⟨9, .guard⟩], some (9, false)⟩ ?_ (.inl ⟨by rfl, ?_⟩) hS ?_
            rotate_left
            · (intro w hSw; (try dsimp only at hSw); go_simp; (try with_reducible rfl))
            try simp only [Act.put, sb, s0, sz]
            refine takeW 12 ⟨some 30, .move (.tmp 29), 4, "ref.go:49", #[⟨11, .data⟩, ⟨9, .chain⟩, ⟨9, .guard⟩], some (9, false)⟩ ?_ (.inl ⟨by rfl, ?_⟩) hS ?_
            rotate_left
            · (intro w hSw; (try dsimp only at hSw); go_simp; (try with_reducible rfl))
            try simp only [Act.put, sb, s0, sz]
            refine takeW 13 ⟨some 31, .fieldAddr 66 (.tmp 3) 1, 0, "ref.go:49", #[⟨12, .guard⟩], some (12, true)⟩ ?_ (.inl ⟨by rfl, ?_⟩) hS ?_
            rotate_left
            · (intro w hSw; (try dsimp only at hSw); go_simp; (try with_reducible rfl))
            try simp only [Act.put, sb, s0, sz]
            refine takeW 14 ⟨some 32, .load 63 (.tmp 31), 63, "ref.go:49", #[⟨13, .data⟩, ⟨12, .guard⟩], some (12, true)⟩ ?_ (.inl ⟨by rfl, ?_⟩) hS ?_
            rotate_left
            · (intro w hSw; (try dsimp only at hSw); go_simp; (try with_reducible rfl))
            try simp only [Act.put, sb, s0, sz]
            refine takeW 15 ⟨some 33, .move (.tmp 5), 3, "ref.go:49", #[⟨12, .guard⟩], some (12, true)⟩ ?_ (.inl ⟨by rfl, ?_⟩) hS ?_
            rotate_left
            · (intro w hSw; (try dsimp only at hSw); go_simp; (try with_reducible rfl))
            try simp only [Act.put, sb, s0, sz]
            refine takeW 16 ⟨some 34, .binOp .sub 3 (.tmp 33) (.const (.int .i64 1)) 3, 3, "ref.go:49", #[⟨15, .data⟩, ⟨12, .guard⟩], some (12, true)⟩ ?_ (.inl ⟨by rfl, ?_⟩) hS ?_
            rotate_left
            · (intro w hSw; (try dsimp only at hSw); go_simp; (try with_reducible rfl))
            try simp only [Act.put, sb, s0, sz]
            refine takeW 17 ⟨some 35, .indexAddr 63 (.tmp 32) (.tmp 34), 0, "ref.go:49", #[⟨14, .data⟩, ⟨16, .data⟩, ⟨12, .guard⟩], some (12, true)⟩ ?_ (.inl ⟨by rfl, ?_⟩) hS ?_
            rotate_left
            · (intro w hSw; (try dsimp only at hSw); go_simp; (try with_reducible rfl))
            try simp only [Act.put, sb, s0, sz]
            refine takeW 18 ⟨some 36, .load 9 (.tmp 35), 9, "ref.go:49", #[⟨17, .data⟩, ⟨12, .guard⟩], some (12, true)⟩ ?_ (.inl ⟨by rfl, ?_⟩) hS ?_
            rotate_left
            · (intro w hSw; (try dsimp only at hSw); go_simp; (try with_reducible rfl))
            try simp only [Act.put, sb, s0, sz]
            refine takeW 19 ⟨some 37, .fieldAddr 66 (.tmp 3) 1, 0, "ref.go:49", #[⟨12, .guard⟩], some (12, true)⟩ ?_ (.inl ⟨by rfl, ?_⟩) hS ?_
            rotate_left
            · (intro w hSw; (try dsimp only at hSw); go_simp; (try with_reducible rfl))
            try simp only [Act.put, sb, s0, sz]
            refine takeW 20 ⟨some 38, .load 63 (.tmp 37), 63, "ref.go:49", #[⟨19, .data⟩, ⟨12, .guard⟩], some (12, true)⟩ ?_ (.inl ⟨by rfl, ?_⟩) hS ?_
            rotate_left
            · (intro w hSw; (try dsimp only at hSw); go_simp; (try with_reducible rfl))
            try simp only [Act.put, sb, s0, sz]
            refine takeW 21 ⟨some 39, .move (.tmp 5), 3, "ref.go:49", #[⟨12, .guard⟩], some (12, true)⟩ ?_ (.inl ⟨by rfl, ?_⟩) hS ?_
            rotate_left
            · (intro w hSw; (try dsimp only at hSw); go_simp; (try with_reducible rfl))
            try simp only [Act.put, sb, s0, sz]
            refine takeW 22 ⟨some 40, .indexAddr 63 (.tmp 38) (.tmp 39), 0, "ref.go:49", #[⟨20, .data⟩, ⟨21, .data⟩, ⟨12, .guard⟩], some (12, true)⟩ ?_ (.inl ⟨by rfl, ?_⟩) hS ?_
            rotate_left
            · (intro w hSw; (try dsimp only at hSw); go_simp; (try with_reducible rfl))
            try simp only [Act.put, sb, s0, sz]
            refine takeW 23 ⟨some 41, .load 9 (.tmp 40), 9, "ref.go:49", #[⟨22, .data⟩, ⟨12, .guard⟩], some (12, true)⟩ ?_ (.inl ⟨by rfl, ?_⟩) hS ?_
            rotate_left
            · (intro w hSw; (try dsimp only at hSw); go_simp; (try with_reducible rfl))
            try simp only [Act.put, sb, s0, sz]
            refine takeW 24 ⟨some 42, .binOp .geq 9 (.tmp 36) (.tmp 41) 9, 4, "ref.go:49", #[⟨18, .data⟩, ⟨23, .data⟩, ⟨12, .guard⟩], some (12, true)⟩ ?_ (.inl ⟨by rfl, ?_⟩) hS ?_
            rotate_left
            · (intro w hSw; (try dsimp only at hSw); go_simp; (try with_reducible rfl))
            try simp only [Act.put, sb, s0, sz]
            refine takeW 25 ⟨some 43, .pick (.tmp 30) (.tmp 42) (.const (.bool false)), 4, "ref.go:49", #[⟨12, .data⟩, ⟨24, .data⟩, ⟨9, .guard⟩], some (9, false)⟩ ?_ (.inl ⟨by rfl, ?_⟩) hS ?_
            rotate_left
            · (intro w hSw; (try dsimp only at hSw); go_simp; (try with_reducible rfl))
            try simp only [Act.put, sb, s0, sz]
            refine takeW 26 ⟨some 44, .pick (.tmp 27) (.const (.bool true)) (.tmp 43), 4, "ref.go:49", #[⟨9, .data⟩, ⟨25, .data⟩], none⟩ ?_ (.inl ⟨by rfl, ?_⟩) hS ?_
            rotate_left
            · (intro w hSw; (try dsimp only at hSw); go_simp; (try with_reducible rfl))
            try simp only [Act.put, sb, s0, sz]
            refine wpAnyH_done (by kernel_rfl) ?_ _
            go_wp2
            go_ret
            exact ⟨_, rfl, by rw [Hz.out]; rfl, hE.drew.tail.tail⟩
          | true =>
            have Hz := SL.hid (show rises keys (j + 1 + 1) = true ∧ wideL (keys.take (j + 1 + 1)) kw = true from ⟨by rw [Hs.out, Hri.out, Hro.out, c2]; rfl, by rw [Hws.out, Hwi.out, c1]; rfl⟩)
            go_wp2_with (first | go_skip | ((with_reducible (show Go.wpList _ _ _ (Go.Oper.mk _ (.load _ _) _ _ _ _ :: _) _ _)); refine wpl_load1 hE 0 rfl rfl rfl rfl (by simp [go_sem]) rfl ?_))
            refine wp_region_held_drew (S := (fun w' => ((Instr.loadAt 63 (.pointer (some ⟨b3, 1, none⟩))).run Try.prog w' = .ok (.slice (some ⟨bb, bo, none⟩) keys.length kc) w') ∧ ((Instr.loadAt 3 (.pointer (some ⟨b2, 0, none⟩))).run Try.prog w' = .ok (.int .i64 kw) w') ∧ ((Instr.loadAt 9 (.pointer (some ⟨bb, bo + j, none⟩))).run Try.prog w' = .ok (.string ⟨x.toArray⟩) w') ∧ ((Instr.loadAt 9 (.pointer (some ⟨bb, bo + (j + 1), none⟩))).run Try.prog w' = .ok (.string ⟨y.toArray⟩) w'))) (by kernel_rfl) ⟨(atVm hE.drew (by repeat (first | exact List.Mem.head _ | refine List.Mem.tail _ ?_)) (by simp [go_sem]) rfl), (atVm hE.drew (by repeat (first | exact List.Mem.head _ | refine List.Mem.tail _ ?_)) (by simp [go_sem]) rfl), (atCell (La.out _ (hE.drew.suf (by repeat (first | exact List.suffix_refl _ | refine List.IsSuffix.trans ?_ (List.suffix_cons _ _))))) (by simp [go_sem])), (atCell (Lb.out _ (hE.drew.suf (by repeat (first | exact List.suffix_refl _ | refine List.IsSuffix.trans ?_ (List.suffix_cons _ _))))) (by simp [go_sem]))⟩ (fun hS => ?_)
            refine takeW 0 ⟨some 18, .fieldAddr 66 (.tmp 3) 1, 0, "ref.go:49", #[], none⟩ ?_ (.inl ⟨by rfl, ?_⟩) hS ?_
            rotate_left
            · (intro w hSw; (try dsimp only at hSw); go_simp; (try with_reducible rfl))
            try simp only [Act.put, sb, s0, sz]
            refine takeW 1 ⟨some 19, .load 63 (.tmp 18), 63, "ref.go:49", #[⟨0, .data⟩], none⟩ ?_ (.inl ⟨by rfl, ?_⟩) hS ?_
            rotate_left
            · (intro w hSw; (try dsimp only at hSw); go_simp; (try with_reducible rfl))
            try simp only [Act.put, sb, s0, sz]
            refine takeW 2 ⟨some 20, .move (.tmp 5), 3, "ref.go:49", #[], none⟩ ?_ (.inl ⟨by rfl, ?_⟩) hS ?_
            rotate_left
            · (intro w hSw; (try dsimp only at hSw); go_simp; (try with_reducible rfl))
            try simp only [Act.put, sb, s0, sz]
            refine takeW 3 ⟨some 21, .indexAddr 63 (.tmp 19) (.tmp 20), 0, "ref.go:49", #[⟨1, .data⟩, ⟨2, .data⟩], none⟩ ?_ (.inl ⟨by rfl, ?_⟩) hS ?_
            rotate_left
            · (intro w hSw; (try dsimp only at hSw); go_simp; (try with_reducible rfl))
            try simp only [Act.put, sb, s0, sz]
            refine takeW 4 ⟨some 22, .load 9 (.tmp 21), 9, "ref.go:49", #[⟨3, .data⟩], none⟩ ?_ (.inl ⟨by rfl, ?_⟩) hS ?_
            rotate_left
            · (intro w hSw; (try dsimp only at hSw); go_simp; (try with_reducible rfl))
            try simp only [Act.put, sb, s0, sz]
            refine takeW 5 ⟨some 23, .call { callee := .builtin .len, args := #[.tmp 22], argTypes := #[9] }, 3, "ref.go:49", #[⟨4, .data⟩], none⟩ ?_ (.inl ⟨by rfl, ?_⟩) hS ?_
            rotate_left
            · (intro w hSw; (try dsimp only at hSw); go_simp; (try with_reducible rfl))
            try simp only [Act.put, sb, s0, sz]
            refine takeW 6 ⟨some 24, .fieldAddr 62 (.tmp 2) 0, 0, "ref.go:49", #[], none⟩ ?_ (.inl ⟨by rfl, ?_⟩) hS ?_
            rotate_left
            · (intro w hSw; (try dsimp only at hSw); go_simp; (try with_reducible rfl))
            try simp only [Act.put, sb, s0, sz]
            refine takeW 7 ⟨some 25, .load 3 (.tmp 24), 3, "ref.go:49", #[⟨6, .data⟩], none⟩ ?_ (.inl ⟨by rfl, ?_⟩) hS ?_
            rotate_left
            · (intro w hSw; (try dsimp only at hSw); go_simp; (try with_reducible rfl))
            try simp only [Act.put, sb, s0, sz]
            refine takeW 8 ⟨some 26, .binOp .neq 3 (.tmp 23) (.tmp 25) 3, 4, "ref.go:49", #[⟨5, .data⟩, ⟨7, .data⟩], none⟩ ?_ (.inl ⟨by rfl, ?_⟩) hS ?_
            rotate_left
            · (intro w hSw; (try dsimp only at hSw); go_simp; (try with_reducible rfl))
            try simp only [Act.put, sb, s0, sz]
            refine takeW 9 ⟨some 27, .move (.tmp 26), 4, "ref.go:49", #[⟨8, .data⟩], none⟩ ?_ (.inl ⟨by rfl, ?_⟩) hS ?_
            rotate_left
            · (intro w hSw; (try dsimp only at hSw); go_simp; (try with_reducible rfl))
            try simp only [Act.put, sb, s0, sz]
            refine takeW 10 ⟨some 28, .move (.tmp 5), 3, "ref.go:49", #[⟨9, .guard⟩], some (9, false)⟩ ?_ (.inl ⟨by rfl, ?_⟩) hS ?_
            rotate_left
            · (intro w hSw; (try dsimp only at hSw); go_simp; (try with_reducible rfl))
            try simp only [Act.put, sb, s0, sz]
            refine takeW 11 ⟨some 29, .binOp .gtr 3 (.tmp 28) (.const (.int .i64 0)) 3, 4, "ref.go:49", #[⟨10, .data⟩, ⟨9, .guard⟩], some (9, false)⟩ ?_ (.inl ⟨by rfl, ?_⟩) hS ?_
            rotate_left
            · (intro w hSw; (try dsimp only at hSw); go_simp; (try with_reducible rfl))
            try simp only [Act.put, sb, s0, sz]
            refine takeW 12 ⟨some 30, .move (.tmp 29), 4, "ref.go:49", #[⟨11, .data⟩, ⟨9, .chain⟩, ⟨9, .guard⟩], some (9, false)⟩ ?_ (.inl ⟨by rfl, ?_⟩) hS ?_
            rotate_left
            · (intro w hSw; (try dsimp only at hSw); go_simp; (try with_reducible rfl))
            try simp only [Act.put, sb, s0, sz]
            refine takeW 13 ⟨some 31, .fieldAddr 66 (.tmp 3) 1, 0, "ref.go:49", #[⟨12, .guard⟩], some (12, true)⟩ ?_ (.inl ⟨by rfl, ?_⟩) hS ?_
            rotate_left
            · (intro w hSw; (try dsimp only at hSw); go_simp; (try with_reducible rfl))
            try simp only [Act.put, sb, s0, sz]
            refine takeW 14 ⟨some 32, .load 63 (.tmp 31), 63, "ref.go:49", #[⟨13, .data⟩, ⟨12, .guard⟩], some (12, true)⟩ ?_ (.inl ⟨by rfl, ?_⟩) hS ?_
            rotate_left
            · (intro w hSw; (try dsimp only at hSw); go_simp; (try with_reducible rfl))
            try simp only [Act.put, sb, s0, sz]
            refine takeW 15 ⟨some 33, .move (.tmp 5), 3, "ref.go:49", #[⟨12, .guard⟩], some (12, true)⟩ ?_ (.inl ⟨by rfl, ?_⟩) hS ?_
            rotate_left
            · (intro w hSw; (try dsimp only at hSw); go_simp; (try with_reducible rfl))
            try simp only [Act.put, sb, s0, sz]
            refine takeW 16 ⟨some 34, .binOp .sub 3 (.tmp 33) (.const (.int .i64 1)) 3, 3, "ref.go:49", #[⟨15, .data⟩, ⟨12, .guard⟩], some (12, true)⟩ ?_ (.inl ⟨by rfl, ?_⟩) hS ?_
            rotate_left
            · (intro w hSw; (try dsimp only at hSw); go_simp; (try with_reducible rfl))
            try simp only [Act.put, sb, s0, sz]
            refine takeW 17 ⟨some 35, .indexAddr 63 (.tmp 32) (.tmp 34), 0, "ref.go:49", #[⟨14, .data⟩, ⟨16, .data⟩, ⟨12, .guard⟩], some (12, true)⟩ ?_ (.inl ⟨by rfl, ?_⟩) hS ?_
            rotate_left
            · (intro w hSw; (try dsimp only at hSw); go_simp; (try with_reducible rfl))
            try simp only [Act.put, sb, s0, sz]
            refine takeW 18 ⟨some 36, .load 9 (.tmp 35), 9, "ref.go:49", #[⟨17, .data⟩, ⟨12, .guard⟩], some (12, true)⟩ ?_ (.inl ⟨by rfl, ?_⟩) hS ?_
            rotate_left
            · (intro w hSw; (try dsimp only at hSw); go_simp; (try with_reducible rfl))
            try simp only [Act.put, sb, s0, sz]
            refine takeW 19 ⟨some 37, .fieldAddr 66 (.tmp 3) 1, 0, "ref.go:49", #[⟨12, .guard⟩], some (12, true)⟩ ?_ (.inl ⟨by rfl, ?_⟩) hS ?_
            rotate_left
            · (intro w hSw; (try dsimp only at hSw); go_simp; (try with_reducible rfl))
            try simp only [Act.put, sb, s0, sz]
            refine takeW 20 ⟨some 38, .load 63 (.tmp 37), 63, "ref.go:49", #[⟨19, .data⟩, ⟨12, .guard⟩], some (12, true)⟩ ?_ (.inl ⟨by rfl, ?_⟩) hS ?_
            rotate_left
            · (intro w hSw; (try dsimp only at hSw); go_simp; (try with_reducible rfl))
            try simp only [Act.put, sb, s0, sz]
            refine takeW 21 ⟨some 39, .move (.tmp 5), 3, "ref.go:49", #[⟨12, .guard⟩], some (12, true)⟩ ?_ (.inl ⟨by rfl, ?_⟩) hS ?_
            rotate_left
            · (intro w hSw; (try dsimp only at hSw); go_simp; (try with_reducible rfl))
            try simp only [Act.put, sb, s0, sz]
            refine takeW 22 ⟨some 40, .indexAddr 63 (.tmp 38) (.tmp 39), 0, "ref.go:49", #[⟨20, .data⟩, ⟨21, .data⟩, ⟨12, .guard⟩], some (12, true)⟩ ?_ (.inl ⟨by rfl, ?_⟩) hS ?_
            rotate_left
            · (intro w hSw; (try dsimp only at hSw); go_simp; (try with_reducible rfl))
            try simp only [Act.put, sb, s0, sz]
            refine takeW 23 ⟨some 41, .load 9 (.tmp 40), 9, "ref.go:49", #[⟨22, .data⟩, ⟨12, .guard⟩], some (12, true)⟩ ?_ (.inl ⟨by rfl, ?_⟩) hS ?_
            rotate_left
            · (intro w hSw; (try dsimp only at hSw); go_simp; (try with_reducible rfl))
            try simp only [Act.put, sb, s0, sz]
            refine takeW 24 ⟨some 42, .binOp .geq 9 (.tmp 36) (.tmp 41) 9, 4, "ref.go:49", #[⟨18, .data⟩, ⟨23, .data⟩, ⟨12, .guard⟩], some (12, true)⟩ ?_ (.inl ⟨by rfl, ?_⟩) hS ?_
            rotate_left
            · (intro w hSw; (try dsimp only at hSw); go_simp; (try with_reducible rfl))
            try simp only [Act.put, sb, s0, sz]
            refine takeW 25 ⟨some 43, .pick (.tmp 30) (.tmp 42) (.const (.bool false)), 4, "ref.go:49", #[⟨12, .data⟩, ⟨24, .data⟩, ⟨9, .guard⟩], some (9, false)⟩ ?_ (.inl ⟨by rfl, ?_⟩) hS ?_
            rotate_left
            · (intro w hSw; (try dsimp only at hSw); go_simp; (try with_reducible rfl))
            try simp only [Act.put, sb, s0, sz]
            refine takeW 26 ⟨some 44, .pick (.tmp 27) (.const (.bool true)) (.tmp 43), 4, "ref.go:49", #[⟨9, .data⟩, ⟨25, .data⟩], none⟩ ?_ (.inl ⟨by rfl, ?_⟩) hS ?_
            rotate_left
            · (intro w hSw; (try dsimp only at hSw); go_simp; (try with_reducible rfl))
            try simp only [Act.put, sb, s0, sz]
            refine wpAnyH_done (by kernel_rfl) ?_ _
            go_wp2
            go_roundw
            case rel => exact ⟨j + 1 + 1, by omega, by first | rfl | simp, Hz.out, hE.drew⟩
            case measure => simp [intOf] <;> omega
    · obtain rfl : k = keys.length := by omega
      rw [List.take_length] at hwi
      have Hz := SL.hid (show mb = mayL kw vw ⟨true, keys, vals, kids⟩ from M3.out hri hwi)
      clear hri hwi M1 M2 M3 hkl
      have R := SL.hid (show mb = (((kids.length : Int) == 0) && (((keys.length : Int) == (vals.length : Int)) && (wideL vals vw && decide ((keys.length : Int) ≤ capN kw vw)))) from Hz.out)
      clear Hz
      have hC := fun {l : List HProp} {w : World} (h : Ent l w) => rCap_shape (kw := kw) (vw := vw) h
      generalize capN kw vw = cap at *
      go_wp2_with (first | go_skip | ((with_reducible (show Go.wpList _ _ _ (Go.Oper.mk _ (.load _ _) _ _ _ _ :: _) _ _)); refine wpl_load1 hE 0 rfl rfl rfl rfl (by simp [go_sem]) rfl ?_))
      go_loopw [6] (fun i wr => RM2 vw vals (ndB b3 66 true keys vals kids ka va ia kc vc ic :: shB b2 62 kw vw :: l) i wr) (fun i _ => vals.length - (intOf i).toNat)
      case atStart => exact ⟨0, Nat.zero_le _, rfl, rfl, hE⟩
      case round =>
        clear hE hlt
        obtain ⟨k, hkl, rfl, hwi, hE⟩ := hrel
        by_cases hlt : k < vals.length
        · have Hwi := SL.hid hwi
          clear hwi
          have Hws := SL.hid (wideL_snoc hlt vw)
          have Hwn := SL.hid (wideL_not hlt (n := vw))
          obtain ⟨bb, bo, rfl, _⟩ := reads_map (hv _ (hE.suf (by repeat (first | exact List.suffix_refl _ | refine List.IsSuffix.trans ?_ (List.suffix_cons _ _))))) hlt
          have Lb := SL.hid (fun W (hW : Ent l W) => show W.cell? ⟨bb, bo + k, none⟩ = some (strv vals[k]) from by
            obtain ⟨b', o', e, h⟩ := reads_map (hv _ hW) hlt
            cases e
            exact h)
          generalize vals[k] = y at *
          cases c1 : ((y.length : Int) == vw) with
          | false =>
            have c1' : ((y.length : Int) != vw) = true := by simp only [bne, c1]; rfl
            have Hw0 := SL.hid (show wideL vals vw = false from Hwn.out c1)
            go_wp2_with (first | go_skip | ((with_reducible (show Go.wpList _ _ _ (Go.Oper.mk _ (.load _ _) _ _ _ _ :: _) _ _)); refine wpl_load1 hE 0 rfl rfl rfl rfl (by simp [go_sem]) rfl ?_))
            refine wp_region_held_drew (S := (fun w' => ((Instr.loadAt 63 (.pointer (some ⟨b3, 2, none⟩))).run Try.prog w' = .ok (.slice (some ⟨bb, bo, none⟩) vals.length vc) w') ∧ ((Instr.loadAt 3 (.pointer (some ⟨b2, 1, none⟩))).run Try.prog w' = .ok (.int .i64 vw) w') ∧ ((Instr.loadAt 9 (.pointer (some ⟨bb, bo + k, none⟩))).run Try.prog w' = .ok (.string ⟨y.toArray⟩) w'))) (by kernel_rfl) ⟨(atVm hE.drew (by repeat (first | exact List.Mem.head _ | refine List.Mem.tail _ ?_)) (by simp [go_sem]) rfl), (atVm hE.drew (by repeat (first | exact List.Mem.head _ | refine List.Mem.tail _ ?_)) (by simp [go_sem]) rfl), (atCell (Lb.out _ (hE.drew.suf (by repeat (first | exact List.suffix_refl _ | refine List.IsSuffix.trans ?_ (List.suffix_cons _ _))))) (by simp [go_sem]))⟩ (fun hS => ?_)
            refine takeW 0 ⟨some 54, .fieldAddr 66 (.tmp 3) 2, 0, "ref.go:55", #[], none⟩ ?_ (.inl ⟨by rfl, ?_⟩) hS ?_
            rotate_left
            · (intro w hSw; (try dsimp only at hSw); go_simp; (try with_reducible rfl))
            try simp only [Act.put, sb, s0, sz]
            refine takeW 1 ⟨some 55, .load 63 (.tmp 54), 63, "ref.go:55", #[⟨0, .data⟩], none⟩ ?_ (.inl ⟨by rfl, ?_⟩) hS ?_
            rotate_left
            · (intro w hSw; (try dsimp only at hSw); go_simp; (try with_reducible rfl))
            try simp only [Act.put, sb, s0, sz]
            refine takeW 2 ⟨some 56, .move (.tmp 6), 3, "ref.go:55", #[], none⟩ ?_ (.inl ⟨by rfl, ?_⟩) hS ?_
            rotate_left
            · (intro w hSw; (try dsimp only at hSw); go_simp; (try with_reducible rfl))
            try simp only [Act.put, sb, s0, sz]
            refine takeW 3 ⟨some 57, .indexAddr 63 (.tmp 55) (.tmp 56), 0, "ref.go:55", #[⟨1, .data⟩, ⟨2, .data⟩], none⟩ ?_ (.inl ⟨by rfl, ?_⟩) hS ?_
            rotate_left
            · (intro w hSw; (try dsimp only at hSw); go_simp; (try with_reducible rfl))
            try simp only [Act.put, sb, s0, sz]
            refine takeW 4 ⟨some 58, .load 9 (.tmp 57), 9, "ref.go:55", #[⟨3, .data⟩], none⟩ ?_ (.inl ⟨by rfl, ?_⟩) hS ?_
            rotate_left
            · (intro w hSw; (try dsimp only at hSw); go_simp; (try with_reducible rfl))
            try simp only [Act.put, sb, s0, sz]
            refine takeW 5 ⟨some 59, .call { callee := .builtin .len, args := #[.tmp 58], argTypes := #[9] }, 3, "ref.go:55", #[⟨4, .data⟩], none⟩ ?_ (.inl ⟨by rfl, ?_⟩) hS ?_
            rotate_left
            · (intro w hSw; (try dsimp only at hSw); go_simp; (try with_reducible rfl))
            try simp only [Act.put, sb, s0, sz]
            refine takeW 6 ⟨some 60, .fieldAddr 62 (.tmp 2) 1, 0, "ref.go:55", #[], none⟩ ?_ (.inl ⟨by rfl, ?_⟩) hS ?_
            rotate_left
            · (intro w hSw; (try dsimp only at hSw); go_simp; (try with_reducible rfl))
            try simp only [Act.put, sb, s0, sz]
            refine takeW 7 ⟨some 61, .load 3 (.tmp 60), 3, "ref.go:55", #[⟨6, .data⟩], none⟩ ?_ (.inl ⟨by rfl, ?_⟩) hS ?_
            rotate_left
            · (intro w hSw; (try dsimp only at hSw); go_simp; (try with_reducible rfl))
            try simp only [Act.put, sb, s0, sz]
            refine takeW 8 ⟨some 62, .binOp .neq 3 (.tmp 59) (.tmp 61) 3, 4, "ref.go:55", #[⟨5, .data⟩, ⟨7, .data⟩], none⟩ ?_ (.inl ⟨by rfl, ?_⟩) hS ?_
            rotate_left
            · (intro w hSw; (try dsimp only at hSw); go_simp; (try with_reducible rfl))
            try simp only [Act.put, sb, s0, sz]
            refine wpAnyH_done (by kernel_rfl) ?_ _
            go_wp2
            go_ret
            exact ⟨_, rfl, by rw [R.out, Hw0.out, Bool.false_and, Bool.and_false, Bool.and_false]; rfl, hE.drew.tail.tail⟩
          | true =>
            have c1' : ((y.length : Int) != vw) = false := by simp only [bne, c1]; rfl
            have Hz := SL.hid (show wideL (vals.take (k + 1)) vw = true by rw [Hws.out, Hwi.out, c1]; rfl)
            go_wp2_with (first | go_skip | ((with_reducible (show Go.wpList _ _ _ (Go.Oper.mk _ (.load _ _) _ _ _ _ :: _) _ _)); refine wpl_load1 hE 0 rfl rfl rfl rfl (by simp [go_sem]) rfl ?_))
            refine wp_region_held_drew (S := (fun w' => ((Instr.loadAt 63 (.pointer (some ⟨b3, 2, none⟩))).run Try.prog w' = .ok (.slice (some ⟨bb, bo, none⟩) vals.length vc) w') ∧ ((Instr.loadAt 3 (.pointer (some ⟨b2, 1, none⟩))).run Try.prog w' = .ok (.int .i64 vw) w') ∧ ((Instr.loadAt 9 (.pointer (some ⟨bb, bo + k, none⟩))).run Try.prog w' = .ok (.string ⟨y.toArray⟩) w'))) (by kernel_rfl) ⟨(atVm hE.drew (by repeat (first | exact List.Mem.head _ | refine List.Mem.tail _ ?_)) (by simp [go_sem]) rfl), (atVm hE.drew (by repeat (first | exact List.Mem.head _ | refine List.Mem.tail _ ?_)) (by simp [go_sem]) rfl), (atCell (Lb.out _ (hE.drew.suf (by repeat (first | exact List.suffix_refl _ | refine List.IsSuffix.trans ?_ (List.suffix_cons _ _))))) (by simp [go_sem]))⟩ (fun hS => ?_)
            refine takeW 0 ⟨some 54, .fieldAddr 66 (.tmp 3) 2, 0, "ref.go:55", #[], none⟩ ?_ (.inl ⟨by rfl, ?_⟩) hS ?_
            rotate_left
            · (intro w hSw; (try dsimp only at hSw); go_simp; (try with_reducible rfl))
            try simp only [Act.put, sb, s0, sz]
            refine takeW 1 ⟨some 55, .load 63 (.tmp 54), 63, "ref.go:55", #[⟨0, .data⟩], none⟩ ?_ (.inl ⟨by rfl, ?_⟩) hS ?_
            rotate_left
            · (intro w hSw; (try dsimp only at hSw); go_simp; (try with_reducible rfl))
            try simp only [Act.put, sb, s0, sz]
            refine takeW 2 ⟨some 56, .move (.tmp 6), 3, "ref.go:55", #[], none⟩ ?_ (.inl ⟨by rfl, ?_⟩) hS ?_
            rotate_left
            · (intro w hSw; (try dsimp only at hSw); go_simp; (try with_reducible rfl))
            try simp only [Act.put, sb, s0, sz]
            refine takeW 3 ⟨some 57, .indexAddr 63 (.tmp 55) (.tmp 56), 0, "ref.go:55", #[⟨1, .data⟩, ⟨2, .data⟩], none⟩ ?_ (.inl ⟨by rfl, ?_⟩) hS ?_
            rotate_left
            · (intro w hSw; (try dsimp only at hSw); go_simp; (try with_reducible rfl))
            try simp only [Act.put, sb, s0, sz]
            refine takeW 4 ⟨some 58, .load 9 (.tmp 57), 9, "ref.go:55", #[⟨3, .data⟩], none⟩ ?_ (.inl ⟨by rfl, ?_⟩) hS ?_
            rotate_left
            · (intro w hSw; (try dsimp only at hSw); go_simp; (try with_reducible rfl))
            try simp only [Act.put, sb, s0, sz]
            refine takeW 5 ⟨some 59, .call { callee := .builtin .len, args := #[.tmp 58], argTypes := #[9] }, 3, "ref.go:55", #[⟨4, .data⟩], none⟩ ?_ (.inl ⟨by rfl, ?_⟩) hS ?_
            rotate_left
            · (intro w hSw; (try dsimp only at hSw); go_simp; (try with_reducible rfl))
            try simp only [Act.put, sb, s0, sz]
            refine takeW 6 ⟨some 60, .fieldAddr 62 (.tmp 2) 1, 0, "ref.go:55", #[], none⟩ ?_ (.inl ⟨by rfl, ?_⟩) hS ?_
            rotate_left
            · (intro w hSw; (try dsimp only at hSw); go_simp; (try with_reducible rfl))
            try simp only [Act.put, sb, s0, sz]
            refine takeW 7 ⟨some 61, .load 3 (.tmp 60), 3, "ref.go:55", #[⟨6, .data⟩], none⟩ ?_ (.inl ⟨by rfl, ?_⟩) hS ?_
            rotate_left
            · (intro w hSw; (try dsimp only at hSw); go_simp; (try with_reducible rfl))
            try simp only [Act.put, sb, s0, sz]
            refine takeW 8 ⟨some 62, .binOp .neq 3 (.tmp 59) (.tmp 61) 3, 4, "ref.go:55", #[⟨5, .data⟩, ⟨7, .data⟩], none⟩ ?_ (.inl ⟨by rfl, ?_⟩) hS ?_
            rotate_left
            · (intro w hSw; (try dsimp only at hSw); go_simp; (try with_reducible rfl))
            try simp only [Act.put, sb, s0, sz]
            refine wpAnyH_done (by kernel_rfl) ?_ _
            go_wp2
            go_roundw
            case rel => exact ⟨k + 1, hlt, by first | rfl | simp, Hz.out, hE.drew⟩
            case measure => simp [intOf] <;> omega
        · obtain rfl : k = vals.length := by omega
          rw [List.take_length] at hwi
          have Hwi := SL.hid hwi
          clear hwi hkl
          cases c0 : ((kids.length : Int) == 0) with
          | false =>
            go_wp2_with (first | go_skip | ((with_reducible (show Go.wpList _ _ _ (Go.Oper.mk _ (.load _ _) _ _ _ _ :: _) _ _)); refine wpl_load1 hE 0 rfl rfl rfl rfl (by simp [go_sem]) rfl ?_))
            refine wp_region_held_drew (S := (fun w' => ((Instr.loadAt 63 (.pointer (some ⟨b3, 1, none⟩))).run Try.prog w' = .ok (.slice ka keys.length kc) w') ∧ ((Instr.loadAt 63 (.pointer (some ⟨b3, 2, none⟩))).run Try.prog w' = .ok (.slice va vals.length vc) w') ∧ ((Instr.loadAt 64 (.pointer (some ⟨b3, 3, none⟩))).run Try.prog w' = .ok (.slice ia kids.length ic) w') ∧ ((Instr.loadAt 62 (.pointer (some ⟨b2, 0, none⟩))).run Try.prog w' = .ok (.agg [.int .i64 kw, .int .i64 vw].toArray) w'))) (by kernel_rfl) ⟨(atVm hE.drew (by repeat (first | exact List.Mem.head _ | refine List.Mem.tail _ ?_)) (by simp [go_sem]) rfl), (atVm hE.drew (by repeat (first | exact List.Mem.head _ | refine List.Mem.tail _ ?_)) (by simp [go_sem]) rfl), (atVm hE.drew (by repeat (first | exact List.Mem.head _ | refine List.Mem.tail _ ?_)) (by simp [go_sem]) rfl), (atWm hE.drew (by repeat (first | exact List.Mem.head _ | refine List.Mem.tail _ ?_)) Try.isAgg62 Try.sizeOf62 rfl)⟩ (fun hS => ?_)
            refine takeW 0 ⟨some 63, .fieldAddr 66 (.tmp 3) 3, 0, "ref.go:59", #[], none⟩ ?_ (.inl ⟨by rfl, ?_⟩) hS ?_
            rotate_left
            · (intro w hSw; (try dsimp only at hSw); go_simp; (try with_reducible rfl))
            try simp only [Act.put, sb, s0, sz]
            refine takeW 1 ⟨some 64, .load 64 (.tmp 63), 64, "ref.go:59", #[⟨0, .data⟩], none⟩ ?_ (.inl ⟨by rfl, ?_⟩) hS ?_
            rotate_left
            · (intro w hSw; (try dsimp only at hSw); go_simp; (try with_reducible rfl))
            try simp only [Act.put, sb, s0, sz]
            refine takeW 2 ⟨some 65, .call { callee := .builtin .len, args := #[.tmp 64], argTypes := #[64] }, 3, "ref.go:59", #[⟨1, .data⟩], none⟩ ?_ (.inl ⟨by rfl, ?_⟩) hS ?_
            rotate_left
            · (intro w hSw; (try dsimp only at hSw); go_simp; (try with_reducible rfl))
            try simp only [Act.put, sb, s0, sz]
            refine takeW 3 ⟨some 66, .binOp .eql 3 (.tmp 65) (.const (.int .i64 0)) 3, 4, "ref.go:59", #[⟨2, .data⟩], none⟩ ?_ (.inl ⟨by rfl, ?_⟩) hS ?_
            rotate_left
            · (intro w hSw; (try dsimp only at hSw); go_simp; (try with_reducible rfl))
            try simp only [Act.put, sb, s0, sz]
            refine takeW 4 ⟨some 67, .move (.tmp 66), 4, "ref.go:59", #[⟨3, .data⟩], none⟩ ?_ (.inl ⟨by rfl, ?_⟩) hS ?_
            rotate_left
            · (intro w hSw; (try dsimp only at hSw); go_simp; (try with_reducible rfl))
            try simp only [Act.put, sb, s0, sz]
            refine takeW 5 ⟨some 68, .fieldAddr 66 (.tmp 3) 2, 0, "ref.go:59", #[⟨4, .guard⟩], some (4, true)⟩ undef (.inr ⟨by rfl, rfl⟩) hS ?_; try simp only [Act.put, sb, s0, sz]
            refine takeW 6 ⟨some 69, .load 63 (.tmp 68), 63, "ref.go:59", #[⟨5, .data⟩, ⟨4, .guard⟩], some (4, true)⟩ undef (.inr ⟨by rfl, rfl⟩) hS ?_; try simp only [Act.put, sb, s0, sz]
            refine takeW 7 ⟨some 70, .call { callee := .builtin .len, args := #[.tmp 69], argTypes := #[63] }, 3, "ref.go:59", #[⟨6, .data⟩, ⟨4, .guard⟩], some (4, true)⟩ undef (.inr ⟨by rfl, rfl⟩) hS ?_; try simp only [Act.put, sb, s0, sz]
            refine takeW 8 ⟨some 71, .fieldAddr 66 (.tmp 3) 1, 0, "ref.go:59", #[⟨4, .guard⟩], some (4, true)⟩ undef (.inr ⟨by rfl, rfl⟩) hS ?_; try simp only [Act.put, sb, s0, sz]
            refine takeW 9 ⟨some 72, .load 63 (.tmp 71), 63, "ref.go:59", #[⟨8, .data⟩, ⟨4, .guard⟩], some (4, true)⟩ undef (.inr ⟨by rfl, rfl⟩) hS ?_; try simp only [Act.put, sb, s0, sz]
            refine takeW 10 ⟨some 73, .call { callee := .builtin .len, args := #[.tmp 72], argTypes := #[63] }, 3, "ref.go:59", #[⟨9, .data⟩, ⟨4, .guard⟩], some (4, true)⟩ undef (.inr ⟨by rfl, rfl⟩) hS ?_; try simp only [Act.put, sb, s0, sz]
            refine takeW 11 ⟨some 74, .binOp .eql 3 (.tmp 70) (.tmp 73) 3, 4, "ref.go:59", #[⟨7, .data⟩, ⟨10, .data⟩, ⟨4, .guard⟩], some (4, true)⟩ undef (.inr ⟨by rfl, rfl⟩) hS ?_; try simp only [Act.put, sb, s0, sz]
            refine takeW 12 ⟨some 75, .pick (.tmp 67) (.tmp 74) (.const (.bool false)), 4, "ref.go:59", #[⟨4, .data⟩, ⟨11, .data⟩], none⟩ ?_ (.inl ⟨by rfl, ?_⟩) hS ?_
            rotate_left
            · (intro w hSw; (try dsimp only at hSw); go_simp; (try with_reducible rfl))
            try simp only [Act.put, sb, s0, sz]
            refine takeW 13 ⟨some 76, .move (.tmp 75), 4, "ref.go:59", #[⟨12, .data⟩, ⟨4, .chain⟩], none⟩ ?_ (.inl ⟨by rfl, ?_⟩) hS ?_
            rotate_left
            · (intro w hSw; (try dsimp only at hSw); go_simp; (try with_reducible rfl))
            try simp only [Act.put, sb, s0, sz]
            refine takeW 14 ⟨some 77, .fieldAddr 66 (.tmp 3) 1, 0, "ref.go:59", #[⟨13, .guard⟩], some (13, true)⟩ undef (.inr ⟨by rfl, rfl⟩) hS ?_; try simp only [Act.put, sb, s0, sz]
            refine takeW 15 ⟨some 78, .load 63 (.tmp 77), 63, "ref.go:59", #[⟨14, .data⟩, ⟨13, .guard⟩], some (13, true)⟩ undef (.inr ⟨by rfl, rfl⟩) hS ?_; try simp only [Act.put, sb, s0, sz]
            refine takeW 16 ⟨some 79, .call { callee := .builtin .len, args := #[.tmp 78], argTypes := #[63] }, 3, "ref.go:59", #[⟨15, .data⟩, ⟨13, .guard⟩], some (13, true)⟩ undef (.inr ⟨by rfl, rfl⟩) hS ?_; try simp only [Act.put, sb, s0, sz]
            refine takeW 17 ⟨some 80, .load 62 (.tmp 2), 62, "ref.go:59", #[⟨13, .guard⟩], some (13, true)⟩ undef (.inr ⟨by rfl, rfl⟩) hS ?_; try simp only [Act.put, sb, s0, sz]
            refine takeW 18 ⟨some 81, .call { callee := .value (.func 30), args := #[.tmp 80], argTypes := #[62] }, 3, "ref.go:59", #[⟨17, .data⟩, ⟨13, .chain⟩, ⟨13, .guard⟩], some (13, true)⟩ undef (.inr ⟨by rfl, rfl⟩) hS ?_; try simp only [Act.put, sb, s0, sz]
            refine takeW 19 ⟨some 82, .binOp .leq 3 (.tmp 79) (.tmp 81) 3, 4, "ref.go:59", #[⟨16, .data⟩, ⟨18, .data⟩, ⟨13, .guard⟩], some (13, true)⟩ undef (.inr ⟨by rfl, rfl⟩) hS ?_; try simp only [Act.put, sb, s0, sz]
            refine takeW 20 ⟨some 83, .pick (.tmp 76) (.tmp 82) (.const (.bool false)), 4, "ref.go:59", #[⟨13, .data⟩, ⟨19, .data⟩], none⟩ ?_ (.inl ⟨by rfl, ?_⟩) hS ?_
            rotate_left
            · (intro w hSw; (try dsimp only at hSw); go_simp; (try with_reducible rfl))
            try simp only [Act.put, sb, s0, sz]
            refine takeW 21 ⟨some 4, .assign (.tmp 83), 4, "ref.go:59", #[⟨20, .data⟩, ⟨18, .chain⟩, ⟨0, .phase⟩, ⟨1, .phase⟩, ⟨2, .phase⟩, ⟨3, .phase⟩, ⟨4, .phase⟩, ⟨5, .phase⟩, ⟨6, .phase⟩, ⟨7, .phase⟩, ⟨8, .phase⟩, ⟨9, .phase⟩, ⟨10, .phase⟩, ⟨11, .phase⟩, ⟨12, .phase⟩, ⟨13, .phase⟩, ⟨14, .phase⟩, ⟨15, .phase⟩, ⟨16, .phase⟩, ⟨17, .phase⟩, ⟨18, .phase⟩, ⟨19, .phase⟩, ⟨20, .phase⟩], none⟩ ?_ (.inl ⟨by rfl, ?_⟩) hS ?_
            rotate_left
            · (intro w hSw; (try dsimp only at hSw); go_simp; (try with_reducible rfl))
            try simp only [Act.put, sb, s0, sz]
            refine wpAnyH_done (by kernel_rfl) ?_ _
            go_wp2
            go_ret
            exact ⟨_, rfl, by rw [R.out, c0]; rfl, hE.drew.tail.tail⟩
          | true =>
            cases c1 : ((keys.length : Int) == (vals.length : Int)) with
            | false =>
              have c1s : ((vals.length : Int) == (keys.length : Int)) = false := by rw [beq_eq_false_iff_ne] at c1 ⊢; omega
              go_wp2_with (first | go_skip | ((with_reducible (show Go.wpList _ _ _ (Go.Oper.mk _ (.load _ _) _ _ _ _ :: _) _ _)); refine wpl_load1 hE 0 rfl rfl rfl rfl (by simp [go_sem]) rfl ?_))
              refine wp_region_held_drew (S := (fun w' => ((Instr.loadAt 63 (.pointer (some ⟨b3, 1, none⟩))).run Try.prog w' = .ok (.slice ka keys.length kc) w') ∧ ((Instr.loadAt 63 (.pointer (some ⟨b3, 2, none⟩))).run Try.prog w' = .ok (.slice va vals.length vc) w') ∧ ((Instr.loadAt 64 (.pointer (some ⟨b3, 3, none⟩))).run Try.prog w' = .ok (.slice ia kids.length ic) w') ∧ ((Instr.loadAt 62 (.pointer (some ⟨b2, 0, none⟩))).run Try.prog w' = .ok (.agg [.int .i64 kw, .int .i64 vw].toArray) w'))) (by kernel_rfl) ⟨(atVm hE.drew (by repeat (first | exact List.Mem.head _ | refine List.Mem.tail _ ?_)) (by simp [go_sem]) rfl), (atVm hE.drew (by repeat (first | exact List.Mem.head _ | refine List.Mem.tail _ ?_)) (by simp [go_sem]) rfl), (atVm hE.drew (by repeat (first | exact List.Mem.head _ | refine List.Mem.tail _ ?_)) (by simp [go_sem]) rfl), (atWm hE.drew (by repeat (first | exact List.Mem.head _ | refine List.Mem.tail _ ?_)) Try.isAgg62 Try.sizeOf62 rfl)⟩ (fun hS => ?_)
              refine takeW 0 ⟨some 63, .fieldAddr 66 (.tmp 3) 3, 0, "ref.go:59", #[], none⟩ ?_ (.inl ⟨by rfl, ?_⟩) hS ?_
              rotate_left
              · (intro w hSw; (try dsimp only at hSw); go_simp; (try with_reducible rfl))
              try simp only [Act.put, sb, s0, sz]
              refine takeW 1 ⟨some 64, .load 64 (.tmp 63), 64, "ref.go:59", #[⟨0, .data⟩], none⟩ ?_ (.inl ⟨by rfl, ?_⟩) hS ?_
              rotate_left
              · (intro w hSw; (try dsimp only at hSw); go_simp; (try with_reducible rfl))
              try simp only [Act.put, sb, s0, sz]
              refine takeW 2 ⟨some 65, .call { callee := .builtin .len, args := #[.tmp 64], argTypes := #[64] }, 3, "ref.go:59", #[⟨1, .data⟩], none⟩ ?_ (.inl ⟨by rfl, ?_⟩) hS ?_
              rotate_left
              · (intro w hSw; (try dsimp only at hSw); go_simp; (try with_reducible rfl))
              try simp only [Act.put, sb, s0, sz]
              refine takeW 3 ⟨some 66, .binOp .eql 3 (.tmp 65) (.const (.int .i64 0)) 3, 4, "ref.go:59", #[⟨2, .data⟩], none⟩ ?_ (.inl ⟨by rfl, ?_⟩) hS ?_
              rotate_left
              · (intro w hSw; (try dsimp only at hSw); go_simp; (try with_reducible rfl))
              try simp only [Act.put, sb, s0, sz]
              refine takeW 4 ⟨some 67, .move (.tmp 66), 4, "ref.go:59", #[⟨3, .data⟩], none⟩ ?_ (.inl ⟨by rfl, ?_⟩) hS ?_
              rotate_left
              · (intro w hSw; (try dsimp only at hSw); go_simp; (try with_reducible rfl))
              try simp only [Act.put, sb, s0, sz]
              refine takeW 5 ⟨some 68, .fieldAddr 66 (.tmp 3) 2, 0, "ref.go:59", #[⟨4, .guard⟩], some (4, true)⟩ ?_ (.inl ⟨by rfl, ?_⟩) hS ?_
              rotate_left
              · (intro w hSw; (try dsimp only at hSw); go_simp; (try with_reducible rfl))
              try simp only [Act.put, sb, s0, sz]
              refine takeW 6 ⟨some 69, .load 63 (.tmp 68), 63, "ref.go:59", #[⟨5, .data⟩, ⟨4, .guard⟩], some (4, true)⟩ ?_ (.inl ⟨by rfl, ?_⟩) hS ?_
              rotate_left
              · (intro w hSw; (try dsimp only at hSw); go_simp; (try with_reducible rfl))
              try simp only [Act.put, sb, s0, sz]
              refine takeW 7 ⟨some 70, .call { callee := .builtin .len, args := #[.tmp 69], argTypes := #[63] }, 3, "ref.go:59", #[⟨6, .data⟩, ⟨4, .guard⟩], some (4, true)⟩ ?_ (.inl ⟨by rfl, ?_⟩) hS ?_
              rotate_left
              · (intro w hSw; (try dsimp only at hSw); go_simp; (try with_reducible rfl))
              try simp only [Act.put, sb, s0, sz]
              refine takeW 8 ⟨some 71, .fieldAddr 66 (.tmp 3) 1, 0, "ref.go:59", #[⟨4, .guard⟩], some (4, true)⟩ ?_ (.inl ⟨by rfl, ?_⟩) hS ?_
              rotate_left
              · (intro w hSw; (try dsimp only at hSw); go_simp; (try with_reducible rfl))
              try simp only [Act.put, sb, s0, sz]
              refine takeW 9 ⟨some 72, .load 63 (.tmp 71), 63, "ref.go:59", #[⟨8, .data⟩, ⟨4, .guard⟩], some (4, true)⟩ ?_ (.inl ⟨by rfl, ?_⟩) hS ?_
              rotate_left
              · (intro w hSw; (try dsimp only at hSw); go_simp; (try with_reducible rfl))
              try simp only [Act.put, sb, s0, sz]
              refine takeW 10 ⟨some 73, .call { callee := .builtin .len, args := #[.tmp 72], argTypes := #[63] }, 3, "ref.go:59", #[⟨9, .data⟩, ⟨4, .guard⟩], some (4, true)⟩ ?_ (.inl ⟨by rfl, ?_⟩) hS ?_
              rotate_left
              · (intro w hSw; (try dsimp only at hSw); go_simp; (try with_reducible rfl))
              try simp only [Act.put, sb, s0, sz]
              refine takeW 11 ⟨some 74, .binOp .eql 3 (.tmp 70) (.tmp 73) 3, 4, "ref.go:59", #[⟨7, .data⟩, ⟨10, .data⟩, ⟨4, .guard⟩], some (4, true)⟩ ?_ (.inl ⟨by rfl, ?_⟩) hS ?_
              rotate_left
              · (intro w hSw; (try dsimp only at hSw); go_simp; (try with_reducible rfl))
              try simp only [Act.put, sb, s0, sz]
              refine takeW 12 ⟨some 75, .pick (.tmp 67) (.tmp 74) (.const (.bool false)), 4, "ref.go:59", #[⟨4, .data⟩, ⟨11, .data⟩], none⟩ ?_ (.inl ⟨by rfl, ?_⟩) hS ?_
              rotate_left
              · (intro w hSw; (try dsimp only at hSw); go_simp; (try with_reducible rfl))
              try simp only [Act.put, sb, s0, sz]
              refine takeW 13 ⟨some 76, .move (.tmp 75), 4, "ref.go:59", #[⟨12, .data⟩, ⟨4, .chain⟩], none⟩ ?_ (.inl ⟨by rfl, ?_⟩) hS ?_
              rotate_left
              · (intro w hSw; (try dsimp only at hSw); go_simp; (try with_reducible rfl))
              try simp only [Act.put, sb, s0, sz]
              refine takeW 14 ⟨some 77, .fieldAddr 66 (.tmp 3) 1, 0, "ref.go:59", #[⟨13, .guard⟩], some (13, true)⟩ undef (.inr ⟨by rfl, rfl⟩) hS ?_; try simp only [Act.put, sb, s0, sz]
              refine takeW 15 ⟨some 78, .load 63 (.tmp 77), 63, "ref.go:59", #[⟨14, .data⟩, ⟨13, .guard⟩], some (13, true)⟩ undef (.inr ⟨by rfl, rfl⟩) hS ?_; try simp only [Act.put, sb, s0, sz]
              refine takeW 16 ⟨some 79, .call { callee := .builtin .len, args := #[.tmp 78], argTypes := #[63] }, 3, "ref.go:59", #[⟨15, .data⟩, ⟨13, .guard⟩], some (13, true)⟩ undef (.inr ⟨by rfl, rfl⟩) hS ?_; try simp only [Act.put, sb, s0, sz]
              refine takeW 17 ⟨some 80, .load 62 (.tmp 2), 62, "ref.go:59", #[⟨13, .guard⟩], some (13, true)⟩ undef (.inr ⟨by rfl, rfl⟩) hS ?_; try simp only [Act.put, sb, s0, sz]
              refine takeW 18 ⟨some 81, .call { callee := .value (.func 30), args := #[.tmp 80], argTypes := #[62] }, 3, "ref.go:59", #[⟨17, .data⟩, ⟨13, .chain⟩, ⟨13, .guard⟩], some (13, true)⟩ undef (.inr ⟨by rfl, rfl⟩) hS ?_; try simp only [Act.put, sb, s0, sz]
              refine takeW 19 ⟨some 82, .binOp .leq 3 (.tmp 79) (.tmp 81) 3, 4, "ref.go:59", #[⟨16, .data⟩, ⟨18, .data⟩, ⟨13, .guard⟩], some (13, true)⟩ undef (.inr ⟨by rfl, rfl⟩) hS ?_; try simp only [Act.put, sb, s0, sz]
              refine takeW 20 ⟨some 83, .pick (.tmp 76) (.tmp 82) (.const (.bool false)), 4, "ref.go:59", #[⟨13, .data⟩, ⟨19, .data⟩], none⟩ ?_ (.inl ⟨by rfl, ?_⟩) hS ?_
              rotate_left
              · (intro w hSw; (try dsimp only at hSw); go_simp; (try with_reducible rfl))
              try simp only [Act.put, sb, s0, sz]
              refine takeW 21 ⟨some 4, .assign (.tmp 83), 4, "ref.go:59", #[⟨20, .data⟩, ⟨18, .chain⟩, ⟨0, .phase⟩, ⟨1, .phase⟩, ⟨2, .phase⟩, ⟨3, .phase⟩, ⟨4, .phase⟩, ⟨5, .phase⟩, ⟨6, .phase⟩, ⟨7, .phase⟩, ⟨8, .phase⟩, ⟨9, .phase⟩, ⟨10, .phase⟩, ⟨11, .phase⟩, ⟨12, .phase⟩, ⟨13, .phase⟩, ⟨14, .phase⟩, ⟨15, .phase⟩, ⟨16, .phase⟩, ⟨17, .phase⟩, ⟨18, .phase⟩, ⟨19, .phase⟩, ⟨20, .phase⟩], none⟩ ?_ (.inl ⟨by rfl, ?_⟩) hS ?_
              rotate_left
              · (intro w hSw; (try dsimp only at hSw); go_simp; (try with_reducible rfl))
              try simp only [Act.put, sb, s0, sz]
              refine wpAnyH_done (by kernel_rfl) ?_ _
              go_wp2
              go_ret
              exact ⟨_, rfl, by rw [R.out, c0, c1]; rfl, hE.drew.tail.tail⟩
            | true =>
              have c1s : ((vals.length : Int) == (keys.length : Int)) = true := by rw [beq_iff_eq] at c1 ⊢; omega
              go_wp2_with (first | go_skip | ((with_reducible (show Go.wpList _ _ _ (Go.Oper.mk _ (.load _ _) _ _ _ _ :: _) _ _)); refine wpl_load1 hE 0 rfl rfl rfl rfl (by simp [go_sem]) rfl ?_))
              refine wp_region_held_drew (S := (fun w' => ((Instr.loadAt 63 (.pointer (some ⟨b3, 1, none⟩))).run Try.prog w' = .ok (.slice ka keys.length kc) w') ∧ ((Instr.loadAt 63 (.pointer (some ⟨b3, 2, none⟩))).run Try.prog w' = .ok (.slice va vals.length vc) w') ∧ ((Instr.loadAt 64 (.pointer (some ⟨b3, 3, none⟩))).run Try.prog w' = .ok (.slice ia kids.length ic) w') ∧ ((Instr.loadAt 62 (.pointer (some ⟨b2, 0, none⟩))).run Try.prog w' = .ok (.agg [.int .i64 kw, .int .i64 vw].toArray) w'))) (by kernel_rfl) ⟨(atVm hE.drew (by repeat (first | exact List.Mem.head _ | refine List.Mem.tail _ ?_)) (by simp [go_sem]) rfl), (atVm hE.drew (by repeat (first | exact List.Mem.head _ | refine List.Mem.tail _ ?_)) (by simp [go_sem]) rfl), (atVm hE.drew (by repeat (first | exact List.Mem.head _ | refine List.Mem.tail _ ?_)) (by simp [go_sem]) rfl), (atWm hE.drew (by repeat (first | exact List.Mem.head _ | refine List.Mem.tail _ ?_)) Try.isAgg62 Try.sizeOf62 rfl)⟩ (fun hS => ?_)
              refine takeW 0 ⟨some 63, .fieldAddr 66 (.tmp 3) 3, 0, "ref.go:59", #[], none⟩ ?_ (.inl ⟨by rfl, ?_⟩) hS ?_
              rotate_left
              · (intro w hSw; (try dsimp only at hSw); go_simp; (try with_reducible rfl))
              try simp only [Act.put, sb, s0, sz]
              refine takeW 1 ⟨some 64, .load 64 (.tmp 63), 64, "ref.go:59", #[⟨0, .data⟩], none⟩ ?_ (.inl ⟨by rfl, ?_⟩) hS ?_
              rotate_left
              · (intro w hSw; (try dsimp only at hSw); go_simp; (try with_reducible rfl))
              try simp only [Act.put, sb, s0, sz]
              refine takeW 2 ⟨some 65, .call { callee := .builtin .len, args := #[.tmp 64], argTypes := #[64] }, 3, "ref.go:59", #[⟨1, .data⟩], none⟩ ?_ (.inl ⟨by rfl, ?_⟩) hS ?_
              rotate_left
              · (intro w hSw; (try dsimp only at hSw); go_simp; (try with_reducible rfl))
              try simp only [Act.put, sb, s0, sz]
              refine takeW 3 ⟨some 66, .binOp .eql 3 (.tmp 65) (.const (.int .i64 0)) 3, 4, "ref.go:59", #[⟨2, .data⟩], none⟩ ?_ (.inl ⟨by rfl, ?_⟩) hS ?_
              rotate_left
              · (intro w hSw; (try dsimp only at hSw); go_simp; (try with_reducible rfl))
              try simp only [Act.put, sb, s0, sz]
              refine takeW 4 ⟨some 67, .move (.tmp 66), 4, "ref.go:59", #[⟨3, .data⟩], none⟩ ?_ (.inl ⟨by rfl, ?_⟩) hS ?_
              rotate_left
              · (intro w hSw; (try dsimp only at hSw); go_simp; (try with_reducible rfl))
              try simp only [Act.put, sb, s0, sz]
              refine takeW 5 ⟨some 68, .fieldAddr 66 (.tmp 3) 2, 0, "ref.go:59", #[⟨4, .guard⟩], some (4, true)⟩ ?_ (.inl ⟨by rfl, ?_⟩) hS ?_
              rotate_left
              · (intro w hSw; (try dsimp only at hSw); go_simp; (try with_reducible rfl))
              try simp only [Act.put, sb, s0, sz]
              refine takeW 6 ⟨some 69, .load 63 (.tmp 68), 63, "ref.go:59", #[⟨5, .data⟩, ⟨4, .guard⟩], some (4, true)⟩ ?_ (.inl ⟨by rfl, ?_⟩) hS ?_
              rotate_left
              · (intro w hSw; (try dsimp only at hSw); go_simp; (try with_reducible rfl))
              try simp only [Act.put, sb, s0, sz]
              refine takeW 7 ⟨some 70, .call { callee := .builtin .len, args := #[.tmp 69], argTypes := #[63] }, 3, "ref.go:59", #[⟨6, .data⟩, ⟨4, .guard⟩], some (4, true)⟩ ?_ (.inl ⟨by rfl, ?_⟩) hS ?_
              rotate_left
              · (intro w hSw; (try dsimp only at hSw); go_simp; (try with_reducible rfl))
              try simp only [Act.put, sb, s0, sz]
              refine takeW 8 ⟨some 71, .fieldAddr 66 (.tmp 3) 1, 0, "ref.go:59", #[⟨4, .guard⟩], some (4, true)⟩ ?_ (.inl ⟨by rfl, ?_⟩) hS ?_
              rotate_left
              · (intro w hSw; (try dsimp only at hSw); go_simp; (try with_reducible rfl))
              try simp only [Act.put, sb, s0, sz]
              refine takeW 9 ⟨some 72, .load 63 (.tmp 71), 63, "ref.go:59", #[⟨8, .data⟩, ⟨4, .guard⟩], some (4, true)⟩ ?_ (.inl ⟨by rfl, ?_⟩) hS ?_
              rotate_left
              · (intro w hSw; (try dsimp only at hSw); go_simp; (try with_reducible rfl))
              try simp only [Act.put, sb, s0, sz]
              refine takeW 10 ⟨some 73, .call { callee := .builtin .len, args := #[.tmp 72], argTypes := #[63] }, 3, "ref.go:59", #[⟨9, .data⟩, ⟨4, .guard⟩], some (4, true)⟩ ?_ (.inl ⟨by rfl, ?_⟩) hS ?_
              rotate_left
              · (intro w hSw; (try dsimp only at hSw); go_simp; (try with_reducible rfl))
              try simp only [Act.put, sb, s0, sz]
              refine takeW 11 ⟨some 74, .binOp .eql 3 (.tmp 70) (.tmp 73) 3, 4, "ref.go:59", #[⟨7, .data⟩, ⟨10, .data⟩, ⟨4, .guard⟩], some (4, true)⟩ ?_ (.inl ⟨by rfl, ?_⟩) hS ?_
              rotate_left
              · (intro w hSw; (try dsimp only at hSw); go_simp; (try with_reducible rfl))
              try simp only [Act.put, sb, s0, sz]
              refine takeW 12 ⟨some 75, .pick (.tmp 67) (.tmp 74) (.const (.bool false)), 4, "ref.go:59", #[⟨4, .data⟩, ⟨11, .data⟩], none⟩ ?_ (.inl ⟨by rfl, ?_⟩) hS ?_
              rotate_left
              · (intro w hSw; (try dsimp only at hSw); go_simp; (try with_reducible rfl))
              try simp only [Act.put, sb, s0, sz]
              refine takeW 13 ⟨some 76, .move (.tmp 75), 4, "ref.go:59", #[⟨12, .data⟩, ⟨4, .chain⟩], none⟩ ?_ (.inl ⟨by rfl, ?_⟩) hS ?_
              rotate_left
              · (intro w hSw; (try dsimp only at hSw); go_simp; (try with_reducible rfl))
              try simp only [Act.put, sb, s0, sz]
              refine takeW 14 ⟨some 77, .fieldAddr 66 (.tmp 3) 1, 0, "ref.go:59", #[⟨13, .guard⟩], some (13, true)⟩ ?_ (.inl ⟨by rfl, ?_⟩) hS ?_
              rotate_left
              · (intro w hSw; (try dsimp only at hSw); go_simp; (try with_reducible rfl))
              try simp only [Act.put, sb, s0, sz]
              refine takeW 15 ⟨some 78, .load 63 (.tmp 77), 63, "ref.go:59", #[⟨14, .data⟩, ⟨13, .guard⟩], some (13, true)⟩ ?_ (.inl ⟨by rfl, ?_⟩) hS ?_
              rotate_left
              · (intro w hSw; (try dsimp only at hSw); go_simp; (try with_reducible rfl))
              try simp only [Act.put, sb, s0, sz]
              refine takeW 16 ⟨some 79, .call { callee := .builtin .len, args := #[.tmp 78], argTypes := #[63] }, 3, "ref.go:59", #[⟨15, .data⟩, ⟨13, .guard⟩], some (13, true)⟩ ?_ (.inl ⟨by rfl, ?_⟩) hS ?_
              rotate_left
              · (intro w hSw; (try dsimp only at hSw); go_simp; (try with_reducible rfl))
              try simp only [Act.put, sb, s0, sz]
              refine takeW 17 ⟨some 80, .load 62 (.tmp 2), 62, "ref.go:59", #[⟨13, .guard⟩], some (13, true)⟩ ?_ (.inl ⟨by rfl, ?_⟩) hS ?_
              rotate_left
              · (intro w hSw; (try dsimp only at hSw); go_simp; (try with_reducible rfl))
              try simp only [Act.put, sb, s0, sz]
              refine wpAnyH_ready (rs := [18]) (by kernel_rfl) (by simp) ?_
              refine (AllReadyH.cons (o := { dst := some 81, op := Go.Op.call { callee := Go.Callee.value (Go.Operand.func 30), args := #[Go.Operand.tmp 80], argTypes := #[62] }, type := 3, pos := "ref.go:59", after := #[{ on := 17, ground := Go.Ground.data }, { on := 13, ground := Go.Ground.chain }, { on := 13, ground := Go.Ground.guard }], guard := some (13, true) }) rfl (fun K hK => ?_) AllReadyH.nil)
              (go_simp; refine (hC hE.drew).mono ?_; clear hC; rintro e w3 ⟨v, rfl, rfl, hE3⟩)
              refine hK.out _ _ ⟨(atVm hE3 (by repeat (first | exact List.Mem.head _ | refine List.Mem.tail _ ?_)) (by simp [go_sem]) rfl), (atVm hE3 (by repeat (first | exact List.Mem.head _ | refine List.Mem.tail _ ?_)) (by simp [go_sem]) rfl), (atVm hE3 (by repeat (first | exact List.Mem.head _ | refine List.Mem.tail _ ?_)) (by simp [go_sem]) rfl), (atWm hE3 (by repeat (first | exact List.Mem.head _ | refine List.Mem.tail _ ?_)) Try.isAgg62 Try.sizeOf62 rfl)⟩ (fun hS => ?_)
              clear hK K
              try simp only [Act.put, sb, s0, sz]
              refine takeW 19 ⟨some 82, .binOp .leq 3 (.tmp 79) (.tmp 81) 3, 4, "ref.go:59", #[⟨16, .data⟩, ⟨18, .data⟩, ⟨13, .guard⟩], some (13, true)⟩ ?_ (.inl ⟨by rfl, ?_⟩) hS ?_
              rotate_left
              · (intro w hSw; (try dsimp only at hSw); go_simp; (try with_reducible rfl))
              try simp only [Act.put, sb, s0, sz]
              refine takeW 20 ⟨some 83, .pick (.tmp 76) (.tmp 82) (.const (.bool false)), 4, "ref.go:59", #[⟨13, .data⟩, ⟨19, .data⟩], none⟩ ?_ (.inl ⟨by rfl, ?_⟩) hS ?_
              rotate_left
              · (intro w hSw; (try dsimp only at hSw); go_simp; (try with_reducible rfl))
              try simp only [Act.put, sb, s0, sz]
              refine takeW 21 ⟨some 4, .assign (.tmp 83), 4, "ref.go:59", #[⟨20, .data⟩, ⟨18, .chain⟩, ⟨0, .phase⟩, ⟨1, .phase⟩, ⟨2, .phase⟩, ⟨3, .phase⟩, ⟨4, .phase⟩, ⟨5, .phase⟩, ⟨6, .phase⟩, ⟨7, .phase⟩, ⟨8, .phase⟩, ⟨9, .phase⟩, ⟨10, .phase⟩, ⟨11, .phase⟩, ⟨12, .phase⟩, ⟨13, .phase⟩, ⟨14, .phase⟩, ⟨15, .phase⟩, ⟨16, .phase⟩, ⟨17, .phase⟩, ⟨18, .phase⟩, ⟨19, .phase⟩, ⟨20, .phase⟩], none⟩ ?_ (.inl ⟨by rfl, ?_⟩) hS ?_
              rotate_left
              · (intro w hSw; (try dsimp only at hSw); go_simp; (try with_reducible rfl))
              try simp only [Act.put, sb, s0, sz]
              refine wpAnyH_done (by kernel_rfl) ?_ _
              go_wp2
              go_ret
              exact ⟨_, rfl, by rw [R.out, c0, c1, Hwi.out]; rfl, hE3.tail.tail⟩
end Go.Proofs.Ytohdljcpaogokaa
