/-
  The document's At. Printed by gen_ta9.py.
-/
import Derived.Test.YtjmllpgmbaoebaaDoorFoldAF6
namespace Go.Proofs.YtjmllpgmbaoebaaDoor
open Go.RowKit Go.SL

set_option maxRecDepth 100000 in
set_option maxHeartbeats 16000000 in
attribute [-go_sem] Instr.loadAt in
theorem rAt_any {t : Tr} {L : List En} (hG : Good t L) (hL : L.length ≤ 1000) (hb : ∀ x ∈ L, x.path.length ≤ 1000000) {q : List (List UInt8)} (hq : q.length ≤ 1000) (hx : ∀ x ∈ q, x.length ≤ 600) {an : Option Addr} {cn : Nat} (hqc : q.length ≤ cn) {ao : Option Addr} {c : Nat} {l : List HProp} {w : World}
    (hn : Knows l (reads (.slice an q.length cn) q.length (q.map strv))) (hk : Knows l (reads (.slice ao L.length c) L.length (L.flatMap enC))) (hE : Ent l w) :
    Calls Tryd.prog 16 #[.agg #[.slice ao L.length c], .slice an q.length cn] w (Ret (rAtPost q t l)) := by
  have Tok := SL.hid True.intro
  have Hd := SL.hid hG.2.2
  go_enter Tryd.func16, Tryd.ntmps16
  go_wp2_with (first
    | go_skip
    | ((with_reducible (show Go.wpList _ _ _ (Go.Oper.mk _ (.box _ _) _ _ _ _ :: _) _ _)); refine wpl_box hE rfl rfl rfl ?_; clear hE; intro b2 w hE; simp only [Act.eval, Act.put, List.setIfInBounds_toArray, List.set_cons_zero, List.set_cons_succ, getD_lit, List.getD_cons_succ, List.getD_cons_zero, Value.cells] at hE)
    | ((with_reducible (show Go.wpList _ _ _ (Go.Oper.mk _ (.alloc _) _ _ _ _ :: _) _ _)); clear Tok; ((with_reducible (show Go.wpList _ _ _ (Go.Oper.mk _ (.alloc _) _ _ _ _ :: _) _ _)); refine wpl_alloc hE rfl rfl (by simp [go_sem]; rfl) ?_; clear hE; intro b4 w hE; simp only [Act.eval, Act.put, List.setIfInBounds_toArray, List.set_cons_zero, List.set_cons_succ, getD_lit, List.getD_cons_succ, List.getD_cons_zero, Value.cells] at hE))
    | ((with_reducible (show Go.wpList _ _ _ (Go.Oper.mk _ (.alloc _) _ _ _ _ :: _) _ _)); refine wpl_alloc hE rfl rfl (by simp [go_sem]; rfl) ?_; clear hE; intro b6 w hE; simp only [Act.eval, Act.put, List.setIfInBounds_toArray, List.set_cons_zero, List.set_cons_succ, getD_lit, List.getD_cons_succ, List.getD_cons_zero, Value.cells] at hE)
    | ((with_reducible (show Go.wpList _ _ _ (Go.Oper.mk _ (.store 41 _ _) _ _ _ _ :: _) _ _)); refine wpl_storeW hE 0 rfl rfl rfl (xs := [.string ⟨#[]⟩, .bool true, .string ⟨#[]⟩]) rfl rfl Tryd.sizeOf41 rfl (by simp [Value.oneCell']) rfl ?_; clear hE; intro w8 hE; simp only [List.set_cons_zero] at hE))
  go_loopw [7] (fun i wr => rAtRel q t b6 (pt b4 (.cells #[.string ⟨#[]⟩, .bool false, .string ⟨#[]⟩] 41) :: pt b2 (.cells #[.slice ao L.length c] 33) :: l) i wr) (fun i _ => q.length - (intOf i).toNat)
  case atStart => exact ⟨0, t, Nat.zero_le _, rfl, rfl, rfl, by rw [Hd.out.1, Hd.out.2]; exact hE⟩
  case round =>
    clear hE
    obtain ⟨k, p, hkn, rfl, hg, hB, hE⟩ := hrel
    obtain ⟨px, hpx⟩ : ∃ x, joinP (q.take k) = x := ⟨_, rfl⟩
    rw [hpx] at hE
    by_cases hlt : k < q.length
    · have hdk : q.drop k = q[k] :: q.drop (k + 1) := List.drop_eq_getElem_cons hlt
      rw [hdk, atT] at hB
      have htk := List.take_succ_eq_append_getElem hlt
      cases hpd : p.dir with
      | false =>
        have HT := SL.hid (show atT 11 10 q t = (11, .zero) from by rw [hB, hpd]; rfl)
        rw [hpd] at hE
        generalize p.data = pb at *
        clear hB hpd hg hpx hdk htk
        go_wp2_with (first
          | go_skip
          | ((with_reducible (show Go.wpList _ _ _ (Go.Oper.mk _ (.load _ _) _ _ _ _ :: _) _ _)); (first | (refine wpl_load1 hE 0 rfl rfl rfl rfl (by simp [go_sem]) rfl ?_) | (refine wpl_load1 hE 1 rfl rfl rfl rfl (by simp [go_sem]) rfl ?_) | (refine wpl_load1 hE 2 rfl rfl rfl rfl (by simp [go_sem]) rfl ?_) | (refine wpl_load1 hE 3 rfl rfl rfl rfl (by simp [go_sem]) rfl ?_) | (refine wpl_load1 hE 4 rfl rfl rfl rfl (by simp [go_sem]) rfl ?_) | (refine wpl_load1 hE 5 rfl rfl rfl rfl (by simp [go_sem]) rfl ?_) | (refine wpl_load1 hE 6 rfl rfl rfl rfl (by simp [go_sem]) rfl ?_) | (refine wpl_load1 hE 7 rfl rfl rfl rfl (by simp [go_sem]) rfl ?_)))
          | ((with_reducible (show Go.wpList _ _ _ (Go.Oper.mk _ (.store 41 _ _) _ _ _ _ :: _) _ _)); (first | (refine wpl_storeW hE 0 rfl rfl rfl (xs := [.string ⟨#[]⟩, .bool false, .string ⟨#[]⟩]) rfl rfl Tryd.sizeOf41 rfl (by simp [Value.oneCell']) rfl ?_) | (refine wpl_storeW hE 1 rfl rfl rfl (xs := [.string ⟨#[]⟩, .bool false, .string ⟨#[]⟩]) rfl rfl Tryd.sizeOf41 rfl (by simp [Value.oneCell']) rfl ?_) | (refine wpl_storeW hE 2 rfl rfl rfl (xs := [.string ⟨#[]⟩, .bool false, .string ⟨#[]⟩]) rfl rfl Tryd.sizeOf41 rfl (by simp [Value.oneCell']) rfl ?_) | (refine wpl_storeW hE 3 rfl rfl rfl (xs := [.string ⟨#[]⟩, .bool false, .string ⟨#[]⟩]) rfl rfl Tryd.sizeOf41 rfl (by simp [Value.oneCell']) rfl ?_) | (refine wpl_storeW hE 4 rfl rfl rfl (xs := [.string ⟨#[]⟩, .bool false, .string ⟨#[]⟩]) rfl rfl Tryd.sizeOf41 rfl (by simp [Value.oneCell']) rfl ?_) | (refine wpl_storeW hE 5 rfl rfl rfl (xs := [.string ⟨#[]⟩, .bool false, .string ⟨#[]⟩]) rfl rfl Tryd.sizeOf41 rfl (by simp [Value.oneCell']) rfl ?_) | (refine wpl_storeW hE 6 rfl rfl rfl (xs := [.string ⟨#[]⟩, .bool false, .string ⟨#[]⟩]) rfl rfl Tryd.sizeOf41 rfl (by simp [Value.oneCell']) rfl ?_) | (refine wpl_storeW hE 7 rfl rfl rfl (xs := [.string ⟨#[]⟩, .bool false, .string ⟨#[]⟩]) rfl rfl Tryd.sizeOf41 rfl (by simp [Value.oneCell']) rfl ?_)); clear hE; intro w hE; simp only [List.set_cons_zero, List.set_cons_succ] at hE))
        refine bodyPost_ret (results_cell2 rfl hE 1 rfl rfl Tryd.isAgg41 Tryd.sizeOf41 rfl rfl) rfl ?_
        exact ⟨_, rfl, [_, _, _], by rw [HT.out]; rfl, hE⟩
      | true =>
        have hB2 : atT 11 10 q t = (match p.kid? q[k] with | none => (10, .zero) | some k' => atT 11 10 (q.drop (k + 1)) k') := by rw [hB, hpd]; rfl
        have HG2 := SL.hid (fun (k' : Tr) (h : p.kid? q[k] = some k') => show Tr.get? (q.take (k + 1)) t = some k' from by rw [htk, get_snoc hg, h])
        have HF := SL.hid (fun (hnm : isName q[k] = true) (v : Value) (h : Found L (kidsI L (joinP (q.take k))) (joinP (q.take k ++ [q[k]])) true (kidsI L (joinP (q.take k))).length v) => found_kid hG hg hnm h)
        have HNo := SL.hid (show isName q[k] = false → p.kid? q[k] = none from fun h => by
          obtain ⟨e, he⟩ := wf_get hG.2.1 hg
          cases hkk : p.kid? q[k] with
          | none => rfl
          | some k' => rw [kid_name he hkk] at h; cases h)
        have HB2 := SL.hid hB2
        have HKi := SL.hid (fun (L2 : List HProp) (w : World) (hs : l <:+ L2) (h : Ent L2 w) => kids_any (by omega) hb (joinP (q.take k)) (hk.suf hs) h)
        have HKb := SL.hid (fun (j : Nat) (h : j < (kidsI L (joinP (q.take k))).length) => show (kidsI L (joinP (q.take k)))[j] < L.length from kidsI_lt (List.getElem_mem h))
        have hkil := kidsI_le L (joinP (q.take k))
        rw [← htk] at HF
        rw [hpd] at hE
        obtain ⟨bn, on, rfl, hz⟩ := reads_form (hn _ hE.tail.tail.tail) (by omega) (by rw [List.length_map]; omega)
        clear hz
        have Nn := SL.hid (show ∀ w, Ent l w → (Instr.loadAt 9 (.pointer (some ⟨bn, on + k, none⟩))).run Tryd.prog w = .ok (.string ⟨q[k].toArray⟩) w from fun w h => atCell (str_cells (hn _ h) hlt) (by simp [go_sem]))
        have HN1 := SL.hid (show ∀ w, Ent l w → reads (.slice (some ⟨bn, on, none⟩) (k + 1) cn) (k + 1) ((q.map strv).take ((k + 1) * 1)) w from fun w h => reads_first (hn _ h) (by omega))
        have HN2 := SL.hid (show ((q.map strv).take ((k + 1) * 1)).length = (k + 1) * 1 from by rw [List.length_take, List.length_map]; omega)
        have HN3 := SL.hid (show ∀ u ∈ (q.map strv).take ((k + 1) * 1), u.oneCell' = true from fun u hu => by
          obtain ⟨s, _, rfl⟩ := List.mem_map.1 (List.mem_of_mem_take hu)
          rfl)
        have HJ := SL.hid (show ∀ (a : Option Addr) (c' : Nat) (L2 : List HProp) (w : World), Ent (row 9 1 (.slice a (k + 1) c') (k + 1) ((q.map strv).take ((k + 1) * 1)) :: L2) w → Calls Tryd.prog 37 #[.slice a (k + 1) c'] w (Ret fun v w' => v = .string ⟨(joinP (q.take (k + 1))).toArray⟩ ∧ Ent (row 9 1 (.slice a (k + 1) c') (k + 1) ((q.map strv).take ((k + 1) * 1)) :: L2) w') from fun a c' L2 w h => by
          have e1 : (q.take (k + 1)).length = k + 1 := by rw [List.length_take]; omega
          have e2 : (q.map strv).take ((k + 1) * 1) = (q.take (k + 1)).map strv := by rw [Nat.mul_one, List.map_take]
          rw [e2] at h ⊢
          have h9 := rJoin_any (xs := q.take (k + 1)) (by omega) (fun x h => hx x (List.mem_of_mem_take h)) (ao := a) (c := c') (l := rowS a c' (q.take (k + 1)) :: L2) (w := w) (by simp only [rowS, e1]; exact h) (fun w h => reads_row h 0 rfl)
          simp only [rowS, e1] at h9
          exact h9)
        have hnl : q[k].length ≤ 600 := hx _ (List.getElem_mem hlt)
        have HNa := SL.hid (fun w => rName_any q[k] (by omega) w)
        obtain ⟨tgt, htgt⟩ : ∃ x, joinP (q.take (k + 1)) = x := ⟨_, rfl⟩
        have Htgt := SL.hid htgt
        rw [htgt] at HF HJ
        rw [hpx] at HF HKi HKb hkil
        clear hB hB2 hpd hg hpx hdk htk htgt hnl hb hx
        generalize kidsI L px = ki at *
        generalize p.data = pb at *
        generalize q[k] = nm at *
        generalize (q.map strv).take ((k + 1) * 1) = news at *
        go_wp2_with (first
          | go_skip
          | ((with_reducible (show Go.wpList _ _ _ (Go.Oper.mk _ (.load 33 _) _ _ _ _ :: _) _ _)); (first | (refine wpl_loadW hE 0 rfl rfl rfl rfl Tryd.isAgg33 Tryd.sizeOf33 rfl ?_) | (refine wpl_loadW hE 1 rfl rfl rfl rfl Tryd.isAgg33 Tryd.sizeOf33 rfl ?_) | (refine wpl_loadW hE 2 rfl rfl rfl rfl Tryd.isAgg33 Tryd.sizeOf33 rfl ?_) | (refine wpl_loadW hE 3 rfl rfl rfl rfl Tryd.isAgg33 Tryd.sizeOf33 rfl ?_) | (refine wpl_loadW hE 4 rfl rfl rfl rfl Tryd.isAgg33 Tryd.sizeOf33 rfl ?_) | (refine wpl_loadW hE 5 rfl rfl rfl rfl Tryd.isAgg33 Tryd.sizeOf33 rfl ?_) | (refine wpl_loadW hE 6 rfl rfl rfl rfl Tryd.isAgg33 Tryd.sizeOf33 rfl ?_) | (refine wpl_loadW hE 7 rfl rfl rfl rfl Tryd.isAgg33 Tryd.sizeOf33 rfl ?_)))
          | ((with_reducible (show Go.wpList _ _ _ (Go.Oper.mk _ (.load _ _) _ _ _ _ :: _) _ _)); (first | (refine wpl_load1 hE 0 rfl rfl rfl rfl (by simp [go_sem]) rfl ?_) | (refine wpl_load1 hE 1 rfl rfl rfl rfl (by simp [go_sem]) rfl ?_) | (refine wpl_load1 hE 2 rfl rfl rfl rfl (by simp [go_sem]) rfl ?_) | (refine wpl_load1 hE 3 rfl rfl rfl rfl (by simp [go_sem]) rfl ?_) | (refine wpl_load1 hE 4 rfl rfl rfl rfl (by simp [go_sem]) rfl ?_) | (refine wpl_load1 hE 5 rfl rfl rfl rfl (by simp [go_sem]) rfl ?_) | (refine wpl_load1 hE 6 rfl rfl rfl rfl (by simp [go_sem]) rfl ?_) | (refine wpl_load1 hE 7 rfl rfl rfl rfl (by simp [go_sem]) rfl ?_)))
          | (go_at_call 36; refine (HKi.out _ _ (by repeat (first | exact List.suffix_refl _ | refine List.IsSuffix.trans ?_ (List.suffix_cons _ _))) hE).mono ?_; clear hE; rintro e w3 ⟨v, rfl, ka, kc, rfl, hE⟩))
        have hmn : ((⟨nm.toArray⟩ : ByteArray) != ⟨#[]⟩) = !(nm == []) := by rw [bne, mkb]
        go_loopw [8, 10] (fun v i wr => FoRel L ki tgt (!(nm == [])) (rowN ka kc ki :: pt b6 (.cells #[.string ⟨px.toArray⟩, .bool true, .string ⟨pb.toArray⟩] 41) :: pt b4 (.cells #[.string ⟨#[]⟩, .bool false, .string ⟨#[]⟩] 41) :: pt b2 (.cells #[.slice ao L.length c] 33) :: l) v i wr) (fun _ i _ => ki.length - (intOf i).toNat)
        case atStart => exact ⟨0, Nat.zero_le _, rfl, Found.start, hE⟩
        case round =>
          clear hE
          obtain ⟨j, hjn, rfl, hfo, hE⟩ := hrel
          by_cases hj : j < ki.length
          · obtain ⟨gk, rfl, _, _⟩ := hE.rowIs 0 rfl (by omega)
            have hLk := HKb.out j hj
            obtain ⟨b, off, rfl, hz⟩ := en_at (hk _ hE.tail.tail.tail.tail) (show 0 < L.length by omega)
            clear hz
            have nj := show ∀ w, Ent (rowN (some ⟨gk, 0, none⟩) kc ki :: pt b6 (.cells #[.string ⟨px.toArray⟩, .bool true, .string ⟨pb.toArray⟩] 41) :: pt b4 (.cells #[.string ⟨#[]⟩, .bool false, .string ⟨#[]⟩] 41) :: pt b2 (.cells #[.slice (some ⟨b, off, none⟩) L.length c] 33) :: l) w → (Instr.loadAt 3 (.pointer (some ⟨gk, j, none⟩))).run Tryd.prog w = .ok (.int .i64 (ki[j] : Int)) w from fun w h =>
              atCell (cells_of (reads_row h 0 rfl) j (intv ki[j]) (by rw [List.getElem?_map, List.getElem?_eq_getElem hj]; rfl)) (by simp [go_sem])
            have lj := show ∀ w, Ent l w → _ from fun w h => (load_en (hk _ h) hLk).2.1
            have hjI : (j : Int) < (ki.length : Int) := by omega
            have hLI : (ki[j] : Int) < (L.length : Int) := by omega
            have HFh := SL.hid (fun (h : L[ki[j]].path = tgt) => Found.hit (L := L) hj hLk h)
            have HFs := SL.hid (fun (h : (!(nm == [])) = true → L[ki[j]].path ≠ tgt) => hfo.skip (fun hne _ _ => h hne))
            have hkc : k + 1 ≤ 1000 := by omega
            have hwk1 : wrap64 ((k : Int) + 1) = ((k + 1 : Nat) : Int) := by unfold wrap64; omega
            have hwk2 : IntKind.i64.wrap ((k : Int) + 1) = (k : Int) + 1 := by
              simp only [IntKind.wrap, IntKind.bits, IntKind.signed]
              simp
              omega
            have h0k : 0 ≤ (k : Int) + 1 := by omega
            have hkt : ((k : Int) + 1).toNat = k + 1 := by omega
            have hcn : (k : Int) + 1 ≤ (cn : Int) := by omega
            have hcn2 : k + 1 ≤ cn := by omega
            generalize L[ki[j]].path = yp at *
            generalize ki[j] = kj at *
            have Nj := SL.hid nj
            have Lj := SL.hid lj
            clear nj lj hfo hn hk
            have hm1 := mkb yp tgt
            cases hty : (yp == tgt) with
            | false =>
              rw [hty] at hm1
              have HB := SL.hid (HFs.out (fun _ => by simpa using hty))
              clear HFs HFh
              go_wp2
              refine wp_region_held_drew (S := (fun w' => ((Instr.loadAt 22 (.pointer (some ⟨b2, 0, none⟩))).run Tryd.prog w' = .ok (.slice (some ⟨b, off, none⟩) L.length c) w') ∧ ((Instr.loadAt 3 (.pointer (some ⟨gk, j, none⟩))).run Tryd.prog w' = .ok (.int .i64 (kj : Int)) w') ∧ ((Instr.loadAt 9 (.pointer (some ⟨b, off + kj * 3, none⟩))).run Tryd.prog w' = .ok (.string ⟨yp.toArray⟩) w') ∧ ((Instr.loadAt 9 (.pointer (some ⟨bn, on + k, none⟩))).run Tryd.prog w' = .ok (.string ⟨nm.toArray⟩) w'))) (by kernel_rfl) ⟨(atVm hE.drew (by repeat (first | exact List.Mem.head _ | refine List.Mem.tail _ ?_)) (by simp [go_sem]) rfl), (Nj.out _ (by first | exact hE.drew | exact hE.drew.tail)), (Lj.out _ (hE.drew.suf (by repeat (first | exact List.suffix_refl _ | refine List.IsSuffix.trans ?_ (List.suffix_cons _ _))))), (Nn.out _ (hE.drew.suf (by repeat (first | exact List.suffix_refl _ | refine List.IsSuffix.trans ?_ (List.suffix_cons _ _)))))⟩ (fun hS => ?_)
              refine takeW 0 ⟨some 32, .fieldAddr 33 (.tmp 2) 0, 0, "ref.go:118", #[], none⟩ ?_ (.inl ⟨by rfl, ?_⟩) hS ?_
              rotate_left
              · (intro w hSw; (try dsimp only at hSw); go_simp; (try with_reducible rfl))
              try simp only [Act.put, sb, s0, sz]
              refine takeW 1 ⟨some 33, .load 22 (.tmp 32), 22, "ref.go:118", #[⟨0, .data⟩], none⟩ ?_ (.inl ⟨by rfl, ?_⟩) hS ?_
              rotate_left
              · (intro w hSw; (try dsimp only at hSw); go_simp; (try with_reducible rfl))
              try simp only [Act.put, sb, s0, sz]
              refine takeW 2 ⟨some 34, .move (.tmp 9), 72, "ref.go:118", #[], none⟩ ?_ (.inl ⟨by rfl, ?_⟩) hS ?_
              rotate_left
              · (intro w hSw; (try dsimp only at hSw); go_simp; (try with_reducible rfl))
              try simp only [Act.put, sb, s0, sz]
              refine takeW 3 ⟨some 35, .move (.tmp 10), 3, "ref.go:118", #[], none⟩ ?_ (.inl ⟨by rfl, ?_⟩) hS ?_
              rotate_left
              · (intro w hSw; (try dsimp only at hSw); go_simp; (try with_reducible rfl))
              try simp only [Act.put, sb, s0, sz]
              refine takeW 4 ⟨some 36, .indexAddr 72 (.tmp 34) (.tmp 35), 0, "ref.go:118", #[⟨2, .data⟩, ⟨3, .data⟩], none⟩ ?_ (.inl ⟨by rfl, ?_⟩) hS ?_
              rotate_left
              · (intro w hSw; (try dsimp only at hSw); go_simp; (try with_reducible rfl))
              try simp only [Act.put, sb, s0, sz]
              refine takeW 5 ⟨some 37, .load 3 (.tmp 36), 3, "ref.go:118", #[⟨4, .data⟩], none⟩ ?_ (.inl ⟨by rfl, ?_⟩) hS ?_
              rotate_left
              · (intro w hSw; (try dsimp only at hSw); go_simp; (try with_reducible rfl))
              try simp only [Act.put, sb, s0, sz]
              refine takeW 6 ⟨some 38, .indexAddr 22 (.tmp 33) (.tmp 37), 0, "ref.go:118", #[⟨1, .data⟩, ⟨5, .data⟩], none⟩ ?_ (.inl ⟨by rfl, ?_⟩) hS ?_
              rotate_left
              · (intro w hSw; (try dsimp only at hSw); go_simp; (try with_reducible rfl))
              try simp only [Act.put, sb, s0, sz]
              refine takeW 7 ⟨some 39, .fieldAddr 41 (.tmp 38) 0, 0, "ref.go:118", #[⟨6, .data⟩], none⟩ ?_ (.inl ⟨by rfl, ?_⟩) hS ?_
              rotate_left
              · (intro w hSw; (try dsimp only at hSw); go_simp; (try with_reducible rfl))
              try simp only [Act.put, sb, s0, sz]
              refine takeW 8 ⟨some 40, .load 9 (.tmp 39), 9, "ref.go:118", #[⟨7, .data⟩], none⟩ ?_ (.inl ⟨by rfl, ?_⟩) hS ?_
              rotate_left
              · (intro w hSw; (try dsimp only at hSw); go_simp; (try with_reducible rfl))
              try simp only [Act.put, sb, s0, sz]
              refine takeW 9 ⟨some 41, .move (.tmp 1), 23, "ref.go:118", #[], none⟩ ?_ (.inl ⟨by rfl, ?_⟩) hS ?_
              rotate_left
              · (intro w hSw; (try dsimp only at hSw); go_simp; (try with_reducible rfl))
              try simp only [Act.put, sb, s0, sz]
              refine takeW 10 ⟨some 42, .move (.tmp 7), 3, "ref.go:118", #[], none⟩ ?_ (.inl ⟨by rfl, ?_⟩) hS ?_
              rotate_left
              · (intro w hSw; (try dsimp only at hSw); go_simp; (try with_reducible rfl))
              try simp only [Act.put, sb, s0, sz]
              refine takeW 11 ⟨some 43, .binOp .add 3 (.tmp 42) (.const (.int .i64 1)) 3, 3, "ref.go:118", #[⟨10, .data⟩], none⟩ ?_ (.inl ⟨by rfl, ?_⟩) hS ?_
              rotate_left
              · (intro w hSw; (try dsimp only at hSw); go_simp; (try with_reducible rfl))
              try simp only [Act.put, sb, s0, sz]
              refine takeW 12 ⟨some 44, .slice 23 (.tmp 41) none (some (.tmp 43)) none, 23, "ref.go:118", #[⟨9, .data⟩, ⟨11, .data⟩], none⟩ ?_ (.inl ⟨by rfl, ?_⟩) hS ?_
              rotate_left
              · (intro w hSw; (try dsimp only at hSw); go_simp; (try with_reducible rfl))
              try simp only [Act.put, sb, s0, sz]
              refine wpAnyH_ready (rs := [13]) (by kernel_rfl) (by simp) ?_
              refine (AllReadyH.cons (o := { dst := some 45, op := Go.Op.call { callee := Go.Callee.builtin Go.Builtin.append, args := #[Go.Operand.const (Go.Value.slice none 0 0), Go.Operand.tmp 44], argTypes := #[23, 23] }, type := 23, pos := "ref.go:118", after := #[{ on := 12, ground := Go.Ground.data }], guard := none }) rfl (fun K hK => ?_) AllReadyH.nil)
              (refine step_appendNil hE.drew rfl (by rfl) (by rfl) (by rfl) Tryd.underlying23 info_str (by decide) (HN1.out _ (hE.drew.suf (by repeat (first | exact List.suffix_refl _ | refine List.IsSuffix.trans ?_ (List.suffix_cons _ _))))) HN2.out HN3.out (by omega) (by omega) ?_; intro a1 c1 w6 hA)
              refine hK.out _ _ ⟨(atVm hA (by repeat (first | exact List.Mem.head _ | refine List.Mem.tail _ ?_)) (by simp [go_sem]) rfl), (Nj.out _ (by first | exact hA | exact hA.tail)), (Lj.out _ (hA.suf (by repeat (first | exact List.suffix_refl _ | refine List.IsSuffix.trans ?_ (List.suffix_cons _ _))))), (Nn.out _ (hA.suf (by repeat (first | exact List.suffix_refl _ | refine List.IsSuffix.trans ?_ (List.suffix_cons _ _)))))⟩ (fun hS => ?_)
              clear hK K
              try simp only [Act.put, sb, s0, sz]
              refine wpAnyH_ready (rs := [14]) (by kernel_rfl) (by simp) ?_
              refine (AllReadyH.cons (o := { dst := some 46, op := Go.Op.call { callee := Go.Callee.value (Go.Operand.func 37), args := #[Go.Operand.tmp 45], argTypes := #[23] }, type := 9, pos := "ref.go:118", after := #[{ on := 13, ground := Go.Ground.data }, { on := 13, ground := Go.Ground.chain }], guard := none }) rfl (fun K hK => ?_) AllReadyH.nil)
              (go_simp; refine (HJ.out _ _ _ _ hA).mono ?_; rintro e w7 ⟨v, rfl, rfl, hB⟩)
              refine hK.out _ _ ⟨(atVm hB (by repeat (first | exact List.Mem.head _ | refine List.Mem.tail _ ?_)) (by simp [go_sem]) rfl), (Nj.out _ (by first | exact hB | exact hB.tail)), (Lj.out _ (hB.suf (by repeat (first | exact List.suffix_refl _ | refine List.IsSuffix.trans ?_ (List.suffix_cons _ _))))), (Nn.out _ (hB.suf (by repeat (first | exact List.suffix_refl _ | refine List.IsSuffix.trans ?_ (List.suffix_cons _ _)))))⟩ (fun hS => ?_)
              clear hK K
              try simp only [Act.put, sb, s0, sz]
              refine takeW 15 ⟨some 47, .binOp .eql 9 (.tmp 40) (.tmp 46) 9, 4, "ref.go:118", #[⟨8, .data⟩, ⟨14, .data⟩], none⟩ ?_ (.inl ⟨by rfl, ?_⟩) hS ?_
              rotate_left
              · (intro w hSw; (try dsimp only at hSw); go_simp; (try with_reducible rfl))
              try simp only [Act.put, sb, s0, sz]
              refine takeW 16 ⟨some 48, .move (.tmp 47), 4, "ref.go:118", #[⟨15, .data⟩, ⟨14, .chain⟩], none⟩ ?_ (.inl ⟨by rfl, ?_⟩) hS ?_
              rotate_left
              · (intro w hSw; (try dsimp only at hSw); go_simp; (try with_reducible rfl))
              try simp only [Act.put, sb, s0, sz]
              refine takeW 17 ⟨some 49, .move (.tmp 1), 23, "ref.go:118", #[⟨16, .guard⟩], some (16, true)⟩ undef (.inr ⟨by rfl, rfl⟩) hS ?_; try simp only [Act.put, sb, s0, sz]
              refine takeW 18 ⟨some 50, .move (.tmp 7), 3, "ref.go:118", #[⟨16, .guard⟩], some (16, true)⟩ undef (.inr ⟨by rfl, rfl⟩) hS ?_; try simp only [Act.put, sb, s0, sz]
              refine takeW 19 ⟨some 51, .indexAddr 23 (.tmp 49) (.tmp 50), 0, "ref.go:118", #[⟨17, .data⟩, ⟨18, .data⟩, ⟨16, .guard⟩], some (16, true)⟩ undef (.inr ⟨by rfl, rfl⟩) hS ?_; try simp only [Act.put, sb, s0, sz]
              refine takeW 20 ⟨some 52, .load 9 (.tmp 51), 9, "ref.go:118", #[⟨19, .data⟩, ⟨16, .guard⟩], some (16, true)⟩ undef (.inr ⟨by rfl, rfl⟩) hS ?_; try simp only [Act.put, sb, s0, sz]
              refine takeW 21 ⟨some 53, .binOp .neq 9 (.tmp 52) (.const (.string { data := #[] })) 9, 4, "ref.go:118", #[⟨20, .data⟩, ⟨16, .guard⟩], some (16, true)⟩ undef (.inr ⟨by rfl, rfl⟩) hS ?_; try simp only [Act.put, sb, s0, sz]
              refine takeW 22 ⟨some 54, .pick (.tmp 48) (.tmp 53) (.const (.bool false)), 4, "ref.go:118", #[⟨16, .data⟩, ⟨21, .data⟩], none⟩ ?_ (.inl ⟨by rfl, ?_⟩) hS ?_
              rotate_left
              · (intro w hSw; (try dsimp only at hSw); go_simp; (try with_reducible rfl))
              try simp only [Act.put, sb, s0, sz]
              refine wpAnyH_done (by kernel_rfl) ?_ _
              clear hS hA
              go_wp2_with (first
                | go_skip
                | ((with_reducible (show Go.wpList _ _ _ (Go.Oper.mk _ (.load 3 _) _ _ _ _ :: _) _ _)); refine wpl_run rfl (w' := w7) (v := .int .i64 (kj : Int)) (by simp only [execOp, Act.eval]; simp [Nj.out _ hB.tail]) ?_))
              go_roundw
              case rel => exact ⟨j + 1, by omega, by first | rfl | simp, HB.out, hB.tail⟩
              case measure => simp [intOf] <;> omega
            | true =>
              rw [hty] at hm1
              cases hne : (nm == []) with
              | true =>
                rw [hne] at hmn HFs
                have HB := SL.hid (HFs.out (fun h => by cases h))
                clear HFs HFh
                go_wp2
                refine wp_region_held_drew (S := (fun w' => ((Instr.loadAt 22 (.pointer (some ⟨b2, 0, none⟩))).run Tryd.prog w' = .ok (.slice (some ⟨b, off, none⟩) L.length c) w') ∧ ((Instr.loadAt 3 (.pointer (some ⟨gk, j, none⟩))).run Tryd.prog w' = .ok (.int .i64 (kj : Int)) w') ∧ ((Instr.loadAt 9 (.pointer (some ⟨b, off + kj * 3, none⟩))).run Tryd.prog w' = .ok (.string ⟨yp.toArray⟩) w') ∧ ((Instr.loadAt 9 (.pointer (some ⟨bn, on + k, none⟩))).run Tryd.prog w' = .ok (.string ⟨nm.toArray⟩) w'))) (by kernel_rfl) ⟨(atVm hE.drew (by repeat (first | exact List.Mem.head _ | refine List.Mem.tail _ ?_)) (by simp [go_sem]) rfl), (Nj.out _ (by first | exact hE.drew | exact hE.drew.tail)), (Lj.out _ (hE.drew.suf (by repeat (first | exact List.suffix_refl _ | refine List.IsSuffix.trans ?_ (List.suffix_cons _ _))))), (Nn.out _ (hE.drew.suf (by repeat (first | exact List.suffix_refl _ | refine List.IsSuffix.trans ?_ (List.suffix_cons _ _)))))⟩ (fun hS => ?_)
                refine takeW 0 ⟨some 32, .fieldAddr 33 (.tmp 2) 0, 0, "ref.go:118", #[], none⟩ ?_ (.inl ⟨by rfl, ?_⟩) hS ?_
                rotate_left
                · (intro w hSw; (try dsimp only at hSw); go_simp; (try with_reducible rfl))
                try simp only [Act.put, sb, s0, sz]
                refine takeW 1 ⟨some 33, .load 22 (.tmp 32), 22, "ref.go:118", #[⟨0, .data⟩], none⟩ ?_ (.inl ⟨by rfl, ?_⟩) hS ?_
                rotate_left
                · (intro w hSw; (try dsimp only at hSw); go_simp; (try with_reducible rfl))
                try simp only [Act.put, sb, s0, sz]
                refine takeW 2 ⟨some 34, .move (.tmp 9), 72, "ref.go:118", #[], none⟩ ?_ (.inl ⟨by rfl, ?_⟩) hS ?_
                rotate_left
                · (intro w hSw; (try dsimp only at hSw); go_simp; (try with_reducible rfl))
                try simp only [Act.put, sb, s0, sz]
                refine takeW 3 ⟨some 35, .move (.tmp 10), 3, "ref.go:118", #[], none⟩ ?_ (.inl ⟨by rfl, ?_⟩) hS ?_
                rotate_left
                · (intro w hSw; (try dsimp only at hSw); go_simp; (try with_reducible rfl))
                try simp only [Act.put, sb, s0, sz]
                refine takeW 4 ⟨some 36, .indexAddr 72 (.tmp 34) (.tmp 35), 0, "ref.go:118", #[⟨2, .data⟩, ⟨3, .data⟩], none⟩ ?_ (.inl ⟨by rfl, ?_⟩) hS ?_
                rotate_left
                · (intro w hSw; (try dsimp only at hSw); go_simp; (try with_reducible rfl))
                try simp only [Act.put, sb, s0, sz]
                refine takeW 5 ⟨some 37, .load 3 (.tmp 36), 3, "ref.go:118", #[⟨4, .data⟩], none⟩ ?_ (.inl ⟨by rfl, ?_⟩) hS ?_
                rotate_left
                · (intro w hSw; (try dsimp only at hSw); go_simp; (try with_reducible rfl))
                try simp only [Act.put, sb, s0, sz]
                refine takeW 6 ⟨some 38, .indexAddr 22 (.tmp 33) (.tmp 37), 0, "ref.go:118", #[⟨1, .data⟩, ⟨5, .data⟩], none⟩ ?_ (.inl ⟨by rfl, ?_⟩) hS ?_
                rotate_left
                · (intro w hSw; (try dsimp only at hSw); go_simp; (try with_reducible rfl))
                try simp only [Act.put, sb, s0, sz]
                refine takeW 7 ⟨some 39, .fieldAddr 41 (.tmp 38) 0, 0, "ref.go:118", #[⟨6, .data⟩], none⟩ ?_ (.inl ⟨by rfl, ?_⟩) hS ?_
                rotate_left
                · (intro w hSw; (try dsimp only at hSw); go_simp; (try with_reducible rfl))
                try simp only [Act.put, sb, s0, sz]
                refine takeW 8 ⟨some 40, .load 9 (.tmp 39), 9, "ref.go:118", #[⟨7, .data⟩], none⟩ ?_ (.inl ⟨by rfl, ?_⟩) hS ?_
                rotate_left
                · (intro w hSw; (try dsimp only at hSw); go_simp; (try with_reducible rfl))
                try simp only [Act.put, sb, s0, sz]
                refine takeW 9 ⟨some 41, .move (.tmp 1), 23, "ref.go:118", #[], none⟩ ?_ (.inl ⟨by rfl, ?_⟩) hS ?_
                rotate_left
                · (intro w hSw; (try dsimp only at hSw); go_simp; (try with_reducible rfl))
                try simp only [Act.put, sb, s0, sz]
                refine takeW 10 ⟨some 42, .move (.tmp 7), 3, "ref.go:118", #[], none⟩ ?_ (.inl ⟨by rfl, ?_⟩) hS ?_
                rotate_left
                · (intro w hSw; (try dsimp only at hSw); go_simp; (try with_reducible rfl))
                try simp only [Act.put, sb, s0, sz]
                refine takeW 11 ⟨some 43, .binOp .add 3 (.tmp 42) (.const (.int .i64 1)) 3, 3, "ref.go:118", #[⟨10, .data⟩], none⟩ ?_ (.inl ⟨by rfl, ?_⟩) hS ?_
                rotate_left
                · (intro w hSw; (try dsimp only at hSw); go_simp; (try with_reducible rfl))
                try simp only [Act.put, sb, s0, sz]
                refine takeW 12 ⟨some 44, .slice 23 (.tmp 41) none (some (.tmp 43)) none, 23, "ref.go:118", #[⟨9, .data⟩, ⟨11, .data⟩], none⟩ ?_ (.inl ⟨by rfl, ?_⟩) hS ?_
                rotate_left
                · (intro w hSw; (try dsimp only at hSw); go_simp; (try with_reducible rfl))
                try simp only [Act.put, sb, s0, sz]
                refine wpAnyH_ready (rs := [13]) (by kernel_rfl) (by simp) ?_
                refine (AllReadyH.cons (o := { dst := some 45, op := Go.Op.call { callee := Go.Callee.builtin Go.Builtin.append, args := #[Go.Operand.const (Go.Value.slice none 0 0), Go.Operand.tmp 44], argTypes := #[23, 23] }, type := 23, pos := "ref.go:118", after := #[{ on := 12, ground := Go.Ground.data }], guard := none }) rfl (fun K hK => ?_) AllReadyH.nil)
                (refine step_appendNil hE.drew rfl (by rfl) (by rfl) (by rfl) Tryd.underlying23 info_str (by decide) (HN1.out _ (hE.drew.suf (by repeat (first | exact List.suffix_refl _ | refine List.IsSuffix.trans ?_ (List.suffix_cons _ _))))) HN2.out HN3.out (by omega) (by omega) ?_; intro a1 c1 w6 hA)
                refine hK.out _ _ ⟨(atVm hA (by repeat (first | exact List.Mem.head _ | refine List.Mem.tail _ ?_)) (by simp [go_sem]) rfl), (Nj.out _ (by first | exact hA | exact hA.tail)), (Lj.out _ (hA.suf (by repeat (first | exact List.suffix_refl _ | refine List.IsSuffix.trans ?_ (List.suffix_cons _ _))))), (Nn.out _ (hA.suf (by repeat (first | exact List.suffix_refl _ | refine List.IsSuffix.trans ?_ (List.suffix_cons _ _)))))⟩ (fun hS => ?_)
                clear hK K
                try simp only [Act.put, sb, s0, sz]
                refine wpAnyH_ready (rs := [14]) (by kernel_rfl) (by simp) ?_
                refine (AllReadyH.cons (o := { dst := some 46, op := Go.Op.call { callee := Go.Callee.value (Go.Operand.func 37), args := #[Go.Operand.tmp 45], argTypes := #[23] }, type := 9, pos := "ref.go:118", after := #[{ on := 13, ground := Go.Ground.data }, { on := 13, ground := Go.Ground.chain }], guard := none }) rfl (fun K hK => ?_) AllReadyH.nil)
                (go_simp; refine (HJ.out _ _ _ _ hA).mono ?_; rintro e w7 ⟨v, rfl, rfl, hB⟩)
                refine hK.out _ _ ⟨(atVm hB (by repeat (first | exact List.Mem.head _ | refine List.Mem.tail _ ?_)) (by simp [go_sem]) rfl), (Nj.out _ (by first | exact hB | exact hB.tail)), (Lj.out _ (hB.suf (by repeat (first | exact List.suffix_refl _ | refine List.IsSuffix.trans ?_ (List.suffix_cons _ _))))), (Nn.out _ (hB.suf (by repeat (first | exact List.suffix_refl _ | refine List.IsSuffix.trans ?_ (List.suffix_cons _ _)))))⟩ (fun hS => ?_)
                clear hK K
                try simp only [Act.put, sb, s0, sz]
                refine takeW 15 ⟨some 47, .binOp .eql 9 (.tmp 40) (.tmp 46) 9, 4, "ref.go:118", #[⟨8, .data⟩, ⟨14, .data⟩], none⟩ ?_ (.inl ⟨by rfl, ?_⟩) hS ?_
                rotate_left
                · (intro w hSw; (try dsimp only at hSw); go_simp; (try with_reducible rfl))
                try simp only [Act.put, sb, s0, sz]
                refine takeW 16 ⟨some 48, .move (.tmp 47), 4, "ref.go:118", #[⟨15, .data⟩, ⟨14, .chain⟩], none⟩ ?_ (.inl ⟨by rfl, ?_⟩) hS ?_
                rotate_left
                · (intro w hSw; (try dsimp only at hSw); go_simp; (try with_reducible rfl))
                try simp only [Act.put, sb, s0, sz]
                refine takeW 17 ⟨some 49, .move (.tmp 1), 23, "ref.go:118", #[⟨16, .guard⟩], some (16, true)⟩ ?_ (.inl ⟨by rfl, ?_⟩) hS ?_
                rotate_left
                · (intro w hSw; (try dsimp only at hSw); go_simp; (try with_reducible rfl))
                try simp only [Act.put, sb, s0, sz]
                refine takeW 18 ⟨some 50, .move (.tmp 7), 3, "ref.go:118", #[⟨16, .guard⟩], some (16, true)⟩ ?_ (.inl ⟨by rfl, ?_⟩) hS ?_
                rotate_left
                · (intro w hSw; (try dsimp only at hSw); go_simp; (try with_reducible rfl))
                try simp only [Act.put, sb, s0, sz]
                refine takeW 19 ⟨some 51, .indexAddr 23 (.tmp 49) (.tmp 50), 0, "ref.go:118", #[⟨17, .data⟩, ⟨18, .data⟩, ⟨16, .guard⟩], some (16, true)⟩ ?_ (.inl ⟨by rfl, ?_⟩) hS ?_
                rotate_left
                · (intro w hSw; (try dsimp only at hSw); go_simp; (try with_reducible rfl))
                try simp only [Act.put, sb, s0, sz]
                refine takeW 20 ⟨some 52, .load 9 (.tmp 51), 9, "ref.go:118", #[⟨19, .data⟩, ⟨16, .guard⟩], some (16, true)⟩ ?_ (.inl ⟨by rfl, ?_⟩) hS ?_
                rotate_left
                · (intro w hSw; (try dsimp only at hSw); go_simp; (try with_reducible rfl))
                try simp only [Act.put, sb, s0, sz]
                refine takeW 21 ⟨some 53, .binOp .neq 9 (.tmp 52) (.const (.string { data := #[] })) 9, 4, "ref.go:118", #[⟨20, .data⟩, ⟨16, .guard⟩], some (16, true)⟩ ?_ (.inl ⟨by rfl, ?_⟩) hS ?_
                rotate_left
                · (intro w hSw; (try dsimp only at hSw); go_simp; (try with_reducible rfl))
                try simp only [Act.put, sb, s0, sz]
                refine takeW 22 ⟨some 54, .pick (.tmp 48) (.tmp 53) (.const (.bool false)), 4, "ref.go:118", #[⟨16, .data⟩, ⟨21, .data⟩], none⟩ ?_ (.inl ⟨by rfl, ?_⟩) hS ?_
                rotate_left
                · (intro w hSw; (try dsimp only at hSw); go_simp; (try with_reducible rfl))
                try simp only [Act.put, sb, s0, sz]
                refine wpAnyH_done (by kernel_rfl) ?_ _
                clear hS hA
                go_wp2_with (first
                  | go_skip
                  | ((with_reducible (show Go.wpList _ _ _ (Go.Oper.mk _ (.load 3 _) _ _ _ _ :: _) _ _)); refine wpl_run rfl (w' := w7) (v := .int .i64 (kj : Int)) (by simp only [execOp, Act.eval]; simp [Nj.out _ hB.tail]) ?_))
                go_roundw
                case rel => exact ⟨j + 1, by omega, by first | rfl | simp, HB.out, hB.tail⟩
                case measure => simp [intOf] <;> omega
              | false =>
                rw [hne] at hmn
                have HB := SL.hid (HFh.out (by simpa using hty))
                clear HFs HFh
                go_wp2
                refine wp_region_held_drew (S := (fun w' => ((Instr.loadAt 22 (.pointer (some ⟨b2, 0, none⟩))).run Tryd.prog w' = .ok (.slice (some ⟨b, off, none⟩) L.length c) w') ∧ ((Instr.loadAt 3 (.pointer (some ⟨gk, j, none⟩))).run Tryd.prog w' = .ok (.int .i64 (kj : Int)) w') ∧ ((Instr.loadAt 9 (.pointer (some ⟨b, off + kj * 3, none⟩))).run Tryd.prog w' = .ok (.string ⟨yp.toArray⟩) w') ∧ ((Instr.loadAt 9 (.pointer (some ⟨bn, on + k, none⟩))).run Tryd.prog w' = .ok (.string ⟨nm.toArray⟩) w'))) (by kernel_rfl) ⟨(atVm hE.drew (by repeat (first | exact List.Mem.head _ | refine List.Mem.tail _ ?_)) (by simp [go_sem]) rfl), (Nj.out _ (by first | exact hE.drew | exact hE.drew.tail)), (Lj.out _ (hE.drew.suf (by repeat (first | exact List.suffix_refl _ | refine List.IsSuffix.trans ?_ (List.suffix_cons _ _))))), (Nn.out _ (hE.drew.suf (by repeat (first | exact List.suffix_refl _ | refine List.IsSuffix.trans ?_ (List.suffix_cons _ _)))))⟩ (fun hS => ?_)
                refine takeW 0 ⟨some 32, .fieldAddr 33 (.tmp 2) 0, 0, "ref.go:118", #[], none⟩ ?_ (.inl ⟨by rfl, ?_⟩) hS ?_
                rotate_left
                · (intro w hSw; (try dsimp only at hSw); go_simp; (try with_reducible rfl))
                try simp only [Act.put, sb, s0, sz]
                refine takeW 1 ⟨some 33, .load 22 (.tmp 32), 22, "ref.go:118", #[⟨0, .data⟩], none⟩ ?_ (.inl ⟨by rfl, ?_⟩) hS ?_
                rotate_left
                · (intro w hSw; (try dsimp only at hSw); go_simp; (try with_reducible rfl))
                try simp only [Act.put, sb, s0, sz]
                refine takeW 2 ⟨some 34, .move (.tmp 9), 72, "ref.go:118", #[], none⟩ ?_ (.inl ⟨by rfl, ?_⟩) hS ?_
                rotate_left
                · (intro w hSw; (try dsimp only at hSw); go_simp; (try with_reducible rfl))
                try simp only [Act.put, sb, s0, sz]
                refine takeW 3 ⟨some 35, .move (.tmp 10), 3, "ref.go:118", #[], none⟩ ?_ (.inl ⟨by rfl, ?_⟩) hS ?_
                rotate_left
                · (intro w hSw; (try dsimp only at hSw); go_simp; (try with_reducible rfl))
                try simp only [Act.put, sb, s0, sz]
                refine takeW 4 ⟨some 36, .indexAddr 72 (.tmp 34) (.tmp 35), 0, "ref.go:118", #[⟨2, .data⟩, ⟨3, .data⟩], none⟩ ?_ (.inl ⟨by rfl, ?_⟩) hS ?_
                rotate_left
                · (intro w hSw; (try dsimp only at hSw); go_simp; (try with_reducible rfl))
                try simp only [Act.put, sb, s0, sz]
                refine takeW 5 ⟨some 37, .load 3 (.tmp 36), 3, "ref.go:118", #[⟨4, .data⟩], none⟩ ?_ (.inl ⟨by rfl, ?_⟩) hS ?_
                rotate_left
                · (intro w hSw; (try dsimp only at hSw); go_simp; (try with_reducible rfl))
                try simp only [Act.put, sb, s0, sz]
                refine takeW 6 ⟨some 38, .indexAddr 22 (.tmp 33) (.tmp 37), 0, "ref.go:118", #[⟨1, .data⟩, ⟨5, .data⟩], none⟩ ?_ (.inl ⟨by rfl, ?_⟩) hS ?_
                rotate_left
                · (intro w hSw; (try dsimp only at hSw); go_simp; (try with_reducible rfl))
                try simp only [Act.put, sb, s0, sz]
                refine takeW 7 ⟨some 39, .fieldAddr 41 (.tmp 38) 0, 0, "ref.go:118", #[⟨6, .data⟩], none⟩ ?_ (.inl ⟨by rfl, ?_⟩) hS ?_
                rotate_left
                · (intro w hSw; (try dsimp only at hSw); go_simp; (try with_reducible rfl))
                try simp only [Act.put, sb, s0, sz]
                refine takeW 8 ⟨some 40, .load 9 (.tmp 39), 9, "ref.go:118", #[⟨7, .data⟩], none⟩ ?_ (.inl ⟨by rfl, ?_⟩) hS ?_
                rotate_left
                · (intro w hSw; (try dsimp only at hSw); go_simp; (try with_reducible rfl))
                try simp only [Act.put, sb, s0, sz]
                refine takeW 9 ⟨some 41, .move (.tmp 1), 23, "ref.go:118", #[], none⟩ ?_ (.inl ⟨by rfl, ?_⟩) hS ?_
                rotate_left
                · (intro w hSw; (try dsimp only at hSw); go_simp; (try with_reducible rfl))
                try simp only [Act.put, sb, s0, sz]
                refine takeW 10 ⟨some 42, .move (.tmp 7), 3, "ref.go:118", #[], none⟩ ?_ (.inl ⟨by rfl, ?_⟩) hS ?_
                rotate_left
                · (intro w hSw; (try dsimp only at hSw); go_simp; (try with_reducible rfl))
                try simp only [Act.put, sb, s0, sz]
                refine takeW 11 ⟨some 43, .binOp .add 3 (.tmp 42) (.const (.int .i64 1)) 3, 3, "ref.go:118", #[⟨10, .data⟩], none⟩ ?_ (.inl ⟨by rfl, ?_⟩) hS ?_
                rotate_left
                · (intro w hSw; (try dsimp only at hSw); go_simp; (try with_reducible rfl))
                try simp only [Act.put, sb, s0, sz]
                refine takeW 12 ⟨some 44, .slice 23 (.tmp 41) none (some (.tmp 43)) none, 23, "ref.go:118", #[⟨9, .data⟩, ⟨11, .data⟩], none⟩ ?_ (.inl ⟨by rfl, ?_⟩) hS ?_
                rotate_left
                · (intro w hSw; (try dsimp only at hSw); go_simp; (try with_reducible rfl))
                try simp only [Act.put, sb, s0, sz]
                refine wpAnyH_ready (rs := [13]) (by kernel_rfl) (by simp) ?_
                refine (AllReadyH.cons (o := { dst := some 45, op := Go.Op.call { callee := Go.Callee.builtin Go.Builtin.append, args := #[Go.Operand.const (Go.Value.slice none 0 0), Go.Operand.tmp 44], argTypes := #[23, 23] }, type := 23, pos := "ref.go:118", after := #[{ on := 12, ground := Go.Ground.data }], guard := none }) rfl (fun K hK => ?_) AllReadyH.nil)
                (refine step_appendNil hE.drew rfl (by rfl) (by rfl) (by rfl) Tryd.underlying23 info_str (by decide) (HN1.out _ (hE.drew.suf (by repeat (first | exact List.suffix_refl _ | refine List.IsSuffix.trans ?_ (List.suffix_cons _ _))))) HN2.out HN3.out (by omega) (by omega) ?_; intro a1 c1 w6 hA)
                refine hK.out _ _ ⟨(atVm hA (by repeat (first | exact List.Mem.head _ | refine List.Mem.tail _ ?_)) (by simp [go_sem]) rfl), (Nj.out _ (by first | exact hA | exact hA.tail)), (Lj.out _ (hA.suf (by repeat (first | exact List.suffix_refl _ | refine List.IsSuffix.trans ?_ (List.suffix_cons _ _))))), (Nn.out _ (hA.suf (by repeat (first | exact List.suffix_refl _ | refine List.IsSuffix.trans ?_ (List.suffix_cons _ _)))))⟩ (fun hS => ?_)
                clear hK K
                try simp only [Act.put, sb, s0, sz]
                refine wpAnyH_ready (rs := [14]) (by kernel_rfl) (by simp) ?_
                refine (AllReadyH.cons (o := { dst := some 46, op := Go.Op.call { callee := Go.Callee.value (Go.Operand.func 37), args := #[Go.Operand.tmp 45], argTypes := #[23] }, type := 9, pos := "ref.go:118", after := #[{ on := 13, ground := Go.Ground.data }, { on := 13, ground := Go.Ground.chain }], guard := none }) rfl (fun K hK => ?_) AllReadyH.nil)
                (go_simp; refine (HJ.out _ _ _ _ hA).mono ?_; rintro e w7 ⟨v, rfl, rfl, hB⟩)
                refine hK.out _ _ ⟨(atVm hB (by repeat (first | exact List.Mem.head _ | refine List.Mem.tail _ ?_)) (by simp [go_sem]) rfl), (Nj.out _ (by first | exact hB | exact hB.tail)), (Lj.out _ (hB.suf (by repeat (first | exact List.suffix_refl _ | refine List.IsSuffix.trans ?_ (List.suffix_cons _ _))))), (Nn.out _ (hB.suf (by repeat (first | exact List.suffix_refl _ | refine List.IsSuffix.trans ?_ (List.suffix_cons _ _)))))⟩ (fun hS => ?_)
                clear hK K
                try simp only [Act.put, sb, s0, sz]
                refine takeW 15 ⟨some 47, .binOp .eql 9 (.tmp 40) (.tmp 46) 9, 4, "ref.go:118", #[⟨8, .data⟩, ⟨14, .data⟩], none⟩ ?_ (.inl ⟨by rfl, ?_⟩) hS ?_
                rotate_left
                · (intro w hSw; (try dsimp only at hSw); go_simp; (try with_reducible rfl))
                try simp only [Act.put, sb, s0, sz]
                refine takeW 16 ⟨some 48, .move (.tmp 47), 4, "ref.go:118", #[⟨15, .data⟩, ⟨14, .chain⟩], none⟩ ?_ (.inl ⟨by rfl, ?_⟩) hS ?_
                rotate_left
                · (intro w hSw; (try dsimp only at hSw); go_simp; (try with_reducible rfl))
                try simp only [Act.put, sb, s0, sz]
                refine takeW 17 ⟨some 49, .move (.tmp 1), 23, "ref.go:118", #[⟨16, .guard⟩], some (16, true)⟩ ?_ (.inl ⟨by rfl, ?_⟩) hS ?_
                rotate_left
                · (intro w hSw; (try dsimp only at hSw); go_simp; (try with_reducible rfl))
                try simp only [Act.put, sb, s0, sz]
                refine takeW 18 ⟨some 50, .move (.tmp 7), 3, "ref.go:118", #[⟨16, .guard⟩], some (16, true)⟩ ?_ (.inl ⟨by rfl, ?_⟩) hS ?_
                rotate_left
                · (intro w hSw; (try dsimp only at hSw); go_simp; (try with_reducible rfl))
                try simp only [Act.put, sb, s0, sz]
                refine takeW 19 ⟨some 51, .indexAddr 23 (.tmp 49) (.tmp 50), 0, "ref.go:118", #[⟨17, .data⟩, ⟨18, .data⟩, ⟨16, .guard⟩], some (16, true)⟩ ?_ (.inl ⟨by rfl, ?_⟩) hS ?_
                rotate_left
                · (intro w hSw; (try dsimp only at hSw); go_simp; (try with_reducible rfl))
                try simp only [Act.put, sb, s0, sz]
                refine takeW 20 ⟨some 52, .load 9 (.tmp 51), 9, "ref.go:118", #[⟨19, .data⟩, ⟨16, .guard⟩], some (16, true)⟩ ?_ (.inl ⟨by rfl, ?_⟩) hS ?_
                rotate_left
                · (intro w hSw; (try dsimp only at hSw); go_simp; (try with_reducible rfl))
                try simp only [Act.put, sb, s0, sz]
                refine takeW 21 ⟨some 53, .binOp .neq 9 (.tmp 52) (.const (.string { data := #[] })) 9, 4, "ref.go:118", #[⟨20, .data⟩, ⟨16, .guard⟩], some (16, true)⟩ ?_ (.inl ⟨by rfl, ?_⟩) hS ?_
                rotate_left
                · (intro w hSw; (try dsimp only at hSw); go_simp; (try with_reducible rfl))
                try simp only [Act.put, sb, s0, sz]
                refine takeW 22 ⟨some 54, .pick (.tmp 48) (.tmp 53) (.const (.bool false)), 4, "ref.go:118", #[⟨16, .data⟩, ⟨21, .data⟩], none⟩ ?_ (.inl ⟨by rfl, ?_⟩) hS ?_
                rotate_left
                · (intro w hSw; (try dsimp only at hSw); go_simp; (try with_reducible rfl))
                try simp only [Act.put, sb, s0, sz]
                refine wpAnyH_done (by kernel_rfl) ?_ _
                clear hS hA
                go_wp2_with (first
                  | go_skip
                  | ((with_reducible (show Go.wpList _ _ _ (Go.Oper.mk _ (.load 3 _) _ _ _ _ :: _) _ _)); refine wpl_run rfl (w' := w7) (v := .int .i64 (kj : Int)) (by simp only [execOp, Act.eval]; simp [Nj.out _ hB.tail]) ?_))
                go_roundw
                case rel => exact ⟨j + 1, by omega, by first | rfl | simp, HB.out, hB.tail⟩
                case measure => simp [intOf] <;> omega
          · obtain rfl : j = ki.length := by omega
            cases hnm : isName nm with
            | false =>
              have HT := SL.hid (show atT 11 10 q t = (10, .zero) from by rw [HB2.out, HNo.out hnm])
              rw [hnm] at HNa
              clear HB2 HNo HF HG2 hnm
              rcases hfo with ⟨rfl, _⟩ | ⟨m, h1, h2, _, rfl, _, _⟩
              · go_wp2_with (first
                  | go_skip
                  | ((with_reducible (show Go.wpList _ _ _ (Go.Oper.mk _ (.load 9 _) _ _ _ _ :: _) _ _)); refine wpl_run rfl (w' := wr) (v := .string ⟨nm.toArray⟩) (by simp only [execOp, Act.eval]; simp [Nn.out _ hE.tail.tail.tail.tail]) ?_)
                  | (go_at_call 38; refine (HNa.out _).mono ?_; rintro e w9 ⟨rfl, rfl⟩)
                  | ((with_reducible (show Go.wpList _ _ _ (Go.Oper.mk _ (.store 41 _ _) _ _ _ _ :: _) _ _)); (first | (refine wpl_storeW hE 0 rfl rfl rfl (xs := [.string ⟨#[]⟩, .bool false, .string ⟨#[]⟩]) rfl rfl Tryd.sizeOf41 rfl (by simp [Value.oneCell']) rfl ?_) | (refine wpl_storeW hE 1 rfl rfl rfl (xs := [.string ⟨#[]⟩, .bool false, .string ⟨#[]⟩]) rfl rfl Tryd.sizeOf41 rfl (by simp [Value.oneCell']) rfl ?_) | (refine wpl_storeW hE 2 rfl rfl rfl (xs := [.string ⟨#[]⟩, .bool false, .string ⟨#[]⟩]) rfl rfl Tryd.sizeOf41 rfl (by simp [Value.oneCell']) rfl ?_) | (refine wpl_storeW hE 3 rfl rfl rfl (xs := [.string ⟨#[]⟩, .bool false, .string ⟨#[]⟩]) rfl rfl Tryd.sizeOf41 rfl (by simp [Value.oneCell']) rfl ?_) | (refine wpl_storeW hE 4 rfl rfl rfl (xs := [.string ⟨#[]⟩, .bool false, .string ⟨#[]⟩]) rfl rfl Tryd.sizeOf41 rfl (by simp [Value.oneCell']) rfl ?_) | (refine wpl_storeW hE 5 rfl rfl rfl (xs := [.string ⟨#[]⟩, .bool false, .string ⟨#[]⟩]) rfl rfl Tryd.sizeOf41 rfl (by simp [Value.oneCell']) rfl ?_) | (refine wpl_storeW hE 6 rfl rfl rfl (xs := [.string ⟨#[]⟩, .bool false, .string ⟨#[]⟩]) rfl rfl Tryd.sizeOf41 rfl (by simp [Value.oneCell']) rfl ?_) | (refine wpl_storeW hE 7 rfl rfl rfl (xs := [.string ⟨#[]⟩, .bool false, .string ⟨#[]⟩]) rfl rfl Tryd.sizeOf41 rfl (by simp [Value.oneCell']) rfl ?_)); clear hE; intro w hE; simp only [List.set_cons_zero, List.set_cons_succ] at hE))
                refine bodyPost_ret (results_cell2 rfl hE 2 rfl rfl Tryd.isAgg41 Tryd.sizeOf41 rfl rfl) rfl ?_
                exact ⟨_, rfl, [_, _, _, _], by rw [HT.out]; rfl, hE⟩
              · have hneg : ¬ ((ki[m] : Int) < 0) := by omega
                generalize ki[m] = kx at *
                go_wp2_with (first
                  | go_skip
                  | ((with_reducible (show Go.wpList _ _ _ (Go.Oper.mk _ (.load 9 _) _ _ _ _ :: _) _ _)); refine wpl_run rfl (w' := wr) (v := .string ⟨nm.toArray⟩) (by simp only [execOp, Act.eval]; simp [Nn.out _ hE.tail.tail.tail.tail]) ?_)
                  | (go_at_call 38; refine (HNa.out _).mono ?_; rintro e w9 ⟨rfl, rfl⟩)
                  | ((with_reducible (show Go.wpList _ _ _ (Go.Oper.mk _ (.store 41 _ _) _ _ _ _ :: _) _ _)); (first | (refine wpl_storeW hE 0 rfl rfl rfl (xs := [.string ⟨#[]⟩, .bool false, .string ⟨#[]⟩]) rfl rfl Tryd.sizeOf41 rfl (by simp [Value.oneCell']) rfl ?_) | (refine wpl_storeW hE 1 rfl rfl rfl (xs := [.string ⟨#[]⟩, .bool false, .string ⟨#[]⟩]) rfl rfl Tryd.sizeOf41 rfl (by simp [Value.oneCell']) rfl ?_) | (refine wpl_storeW hE 2 rfl rfl rfl (xs := [.string ⟨#[]⟩, .bool false, .string ⟨#[]⟩]) rfl rfl Tryd.sizeOf41 rfl (by simp [Value.oneCell']) rfl ?_) | (refine wpl_storeW hE 3 rfl rfl rfl (xs := [.string ⟨#[]⟩, .bool false, .string ⟨#[]⟩]) rfl rfl Tryd.sizeOf41 rfl (by simp [Value.oneCell']) rfl ?_) | (refine wpl_storeW hE 4 rfl rfl rfl (xs := [.string ⟨#[]⟩, .bool false, .string ⟨#[]⟩]) rfl rfl Tryd.sizeOf41 rfl (by simp [Value.oneCell']) rfl ?_) | (refine wpl_storeW hE 5 rfl rfl rfl (xs := [.string ⟨#[]⟩, .bool false, .string ⟨#[]⟩]) rfl rfl Tryd.sizeOf41 rfl (by simp [Value.oneCell']) rfl ?_) | (refine wpl_storeW hE 6 rfl rfl rfl (xs := [.string ⟨#[]⟩, .bool false, .string ⟨#[]⟩]) rfl rfl Tryd.sizeOf41 rfl (by simp [Value.oneCell']) rfl ?_) | (refine wpl_storeW hE 7 rfl rfl rfl (xs := [.string ⟨#[]⟩, .bool false, .string ⟨#[]⟩]) rfl rfl Tryd.sizeOf41 rfl (by simp [Value.oneCell']) rfl ?_)); clear hE; intro w hE; simp only [List.set_cons_zero, List.set_cons_succ] at hE))
                refine bodyPost_ret (results_cell2 rfl hE 2 rfl rfl Tryd.isAgg41 Tryd.sizeOf41 rfl rfl) rfl ?_
                exact ⟨_, rfl, [_, _, _, _], by rw [HT.out]; rfl, hE⟩
            | true =>
              rw [hnm] at HNa
              have hne : (nm == []) = false := by
                have := (name_len hnm).1
                cases nm with
                | nil => simp at this
                | cons a b => rfl
              rw [hne] at hfo
              have hfk := HF.out hnm _ hfo
              clear HF HNo hfo
              rcases hfk with ⟨rfl, hno⟩ | ⟨i, hi, k2, rfl, hk2, hLi⟩
              · have HT := SL.hid (show atT 11 10 q t = (10, .zero) from by rw [HB2.out, hno])
                clear HB2 HG2 hnm hne hno
                go_wp2_with (first
                  | go_skip
                  | ((with_reducible (show Go.wpList _ _ _ (Go.Oper.mk _ (.load 9 _) _ _ _ _ :: _) _ _)); refine wpl_run rfl (w' := wr) (v := .string ⟨nm.toArray⟩) (by simp only [execOp, Act.eval]; simp [Nn.out _ hE.tail.tail.tail.tail]) ?_)
                  | (go_at_call 38; refine (HNa.out _).mono ?_; rintro e w9 ⟨rfl, rfl⟩)
                  | ((with_reducible (show Go.wpList _ _ _ (Go.Oper.mk _ (.store 41 _ _) _ _ _ _ :: _) _ _)); (first | (refine wpl_storeW hE 0 rfl rfl rfl (xs := [.string ⟨#[]⟩, .bool false, .string ⟨#[]⟩]) rfl rfl Tryd.sizeOf41 rfl (by simp [Value.oneCell']) rfl ?_) | (refine wpl_storeW hE 1 rfl rfl rfl (xs := [.string ⟨#[]⟩, .bool false, .string ⟨#[]⟩]) rfl rfl Tryd.sizeOf41 rfl (by simp [Value.oneCell']) rfl ?_) | (refine wpl_storeW hE 2 rfl rfl rfl (xs := [.string ⟨#[]⟩, .bool false, .string ⟨#[]⟩]) rfl rfl Tryd.sizeOf41 rfl (by simp [Value.oneCell']) rfl ?_) | (refine wpl_storeW hE 3 rfl rfl rfl (xs := [.string ⟨#[]⟩, .bool false, .string ⟨#[]⟩]) rfl rfl Tryd.sizeOf41 rfl (by simp [Value.oneCell']) rfl ?_) | (refine wpl_storeW hE 4 rfl rfl rfl (xs := [.string ⟨#[]⟩, .bool false, .string ⟨#[]⟩]) rfl rfl Tryd.sizeOf41 rfl (by simp [Value.oneCell']) rfl ?_) | (refine wpl_storeW hE 5 rfl rfl rfl (xs := [.string ⟨#[]⟩, .bool false, .string ⟨#[]⟩]) rfl rfl Tryd.sizeOf41 rfl (by simp [Value.oneCell']) rfl ?_) | (refine wpl_storeW hE 6 rfl rfl rfl (xs := [.string ⟨#[]⟩, .bool false, .string ⟨#[]⟩]) rfl rfl Tryd.sizeOf41 rfl (by simp [Value.oneCell']) rfl ?_) | (refine wpl_storeW hE 7 rfl rfl rfl (xs := [.string ⟨#[]⟩, .bool false, .string ⟨#[]⟩]) rfl rfl Tryd.sizeOf41 rfl (by simp [Value.oneCell']) rfl ?_)); clear hE; intro w hE; simp only [List.set_cons_zero, List.set_cons_succ] at hE))
                refine bodyPost_ret (results_cell2 rfl hE 2 rfl rfl Tryd.isAgg41 Tryd.sizeOf41 rfl rfl) rfl ?_
                exact ⟨_, rfl, [_, _, _, _], by rw [HT.out]; rfl, hE⟩
              · have HT := SL.hid (show atT 11 10 q t = atT 11 10 (q.drop (k + 1)) k2 from by rw [HB2.out, hk2])
                have HG3 := SL.hid (HG2.out k2 hk2)
                obtain ⟨b, off, rfl, hz⟩ := en_at (hk _ hE.tail.tail.tail.tail) hi
                clear hz
                have ld := show ∀ w, Ent l w → (Instr.loadAt 41 (.pointer (some ⟨b, off + i * 3, none⟩))).run Tryd.prog w = .ok (.agg #[.string ⟨tgt.toArray⟩, .bool k2.dir, .string ⟨k2.data.toArray⟩]) w from fun w h => by
                  have := (load_en (hk _ h) hi).1
                  rwa [hLi] at this
                have Ld := SL.hid ld
                have hiI : (i : Int) < (L.length : Int) := by omega
                have hneg : ¬ ((i : Int) < 0) := by omega
                clear HB2 HG2 hnm hne hk2 hLi ld hk hn
                go_wp2_with (first
                  | go_skip
                  | ((with_reducible (show Go.wpList _ _ _ (Go.Oper.mk _ (.load 9 _) _ _ _ _ :: _) _ _)); refine wpl_run rfl (w' := wr) (v := .string ⟨nm.toArray⟩) (by simp only [execOp, Act.eval]; simp [Nn.out _ hE.tail.tail.tail.tail]) ?_)
                  | (go_at_call 38; refine (HNa.out _).mono ?_; rintro e w9 ⟨rfl, rfl⟩)
                  | ((with_reducible (show Go.wpList _ _ _ (Go.Oper.mk _ (.load 41 _) _ _ _ _ :: _) _ _)); refine wpl_run rfl (w' := _) (v := .agg #[.string ⟨tgt.toArray⟩, .bool k2.dir, .string ⟨k2.data.toArray⟩]) (by simp only [execOp, Act.eval]; simp [Ld.out _ hE.tail.tail.tail.tail]; rfl) ?_)
                  | ((with_reducible (show Go.wpList _ _ _ (Go.Oper.mk _ (.load _ _) _ _ _ _ :: _) _ _)); (first | (refine wpl_load1 hE 0 rfl rfl rfl rfl (by simp [go_sem]) rfl ?_) | (refine wpl_load1 hE 1 rfl rfl rfl rfl (by simp [go_sem]) rfl ?_) | (refine wpl_load1 hE 2 rfl rfl rfl rfl (by simp [go_sem]) rfl ?_) | (refine wpl_load1 hE 3 rfl rfl rfl rfl (by simp [go_sem]) rfl ?_) | (refine wpl_load1 hE 4 rfl rfl rfl rfl (by simp [go_sem]) rfl ?_) | (refine wpl_load1 hE 5 rfl rfl rfl rfl (by simp [go_sem]) rfl ?_) | (refine wpl_load1 hE 6 rfl rfl rfl rfl (by simp [go_sem]) rfl ?_) | (refine wpl_load1 hE 7 rfl rfl rfl rfl (by simp [go_sem]) rfl ?_)))
                  | ((with_reducible (show Go.wpList _ _ _ (Go.Oper.mk _ (.store 41 _ _) _ _ _ _ :: _) _ _)); (first | (refine wpl_storeW hE 0 rfl rfl rfl (xs := [.string ⟨tgt.toArray⟩, .bool k2.dir, .string ⟨k2.data.toArray⟩]) rfl rfl Tryd.sizeOf41 rfl (by simp [Value.oneCell']) rfl ?_) | (refine wpl_storeW hE 1 rfl rfl rfl (xs := [.string ⟨tgt.toArray⟩, .bool k2.dir, .string ⟨k2.data.toArray⟩]) rfl rfl Tryd.sizeOf41 rfl (by simp [Value.oneCell']) rfl ?_) | (refine wpl_storeW hE 2 rfl rfl rfl (xs := [.string ⟨tgt.toArray⟩, .bool k2.dir, .string ⟨k2.data.toArray⟩]) rfl rfl Tryd.sizeOf41 rfl (by simp [Value.oneCell']) rfl ?_) | (refine wpl_storeW hE 3 rfl rfl rfl (xs := [.string ⟨tgt.toArray⟩, .bool k2.dir, .string ⟨k2.data.toArray⟩]) rfl rfl Tryd.sizeOf41 rfl (by simp [Value.oneCell']) rfl ?_) | (refine wpl_storeW hE 4 rfl rfl rfl (xs := [.string ⟨tgt.toArray⟩, .bool k2.dir, .string ⟨k2.data.toArray⟩]) rfl rfl Tryd.sizeOf41 rfl (by simp [Value.oneCell']) rfl ?_) | (refine wpl_storeW hE 5 rfl rfl rfl (xs := [.string ⟨tgt.toArray⟩, .bool k2.dir, .string ⟨k2.data.toArray⟩]) rfl rfl Tryd.sizeOf41 rfl (by simp [Value.oneCell']) rfl ?_) | (refine wpl_storeW hE 6 rfl rfl rfl (xs := [.string ⟨tgt.toArray⟩, .bool k2.dir, .string ⟨k2.data.toArray⟩]) rfl rfl Tryd.sizeOf41 rfl (by simp [Value.oneCell']) rfl ?_) | (refine wpl_storeW hE 7 rfl rfl rfl (xs := [.string ⟨tgt.toArray⟩, .bool k2.dir, .string ⟨k2.data.toArray⟩]) rfl rfl Tryd.sizeOf41 rfl (by simp [Value.oneCell']) rfl ?_)); clear hE; intro w hE; simp only [List.set_cons_zero, List.set_cons_succ] at hE))
                go_roundw
                case rel => exact ⟨k + 1, k2, hlt, by first | rfl | simp, HG3.out, HT.out, by rw [Htgt.out]; exact hE.tail⟩
                case measure => simp [intOf] <;> omega
    · obtain rfl : k = q.length := by omega
      rw [List.drop_length] at hB
      have HT := SL.hid (show atT 11 10 q t = (0, p) from hB)
      rw [List.take_length] at hpx
      have Hpx := SL.hid hpx
      clear hB hpx hg
      generalize hpd : p.dir = pd at *
      generalize hpb : p.data = pb at *
      have Hpd := SL.hid hpd
      have Hpb := SL.hid hpb
      clear hpd hpb
      go_wp2_with (first
        | go_skip
        | ((with_reducible (show Go.wpList _ _ _ (Go.Oper.mk _ (.load 41 _) _ _ _ _ :: _) _ _)); (first | (refine wpl_loadW hE 0 rfl rfl rfl rfl Tryd.isAgg41 Tryd.sizeOf41 rfl ?_) | (refine wpl_loadW hE 1 rfl rfl rfl rfl Tryd.isAgg41 Tryd.sizeOf41 rfl ?_) | (refine wpl_loadW hE 2 rfl rfl rfl rfl Tryd.isAgg41 Tryd.sizeOf41 rfl ?_) | (refine wpl_loadW hE 3 rfl rfl rfl rfl Tryd.isAgg41 Tryd.sizeOf41 rfl ?_) | (refine wpl_loadW hE 4 rfl rfl rfl rfl Tryd.isAgg41 Tryd.sizeOf41 rfl ?_) | (refine wpl_loadW hE 5 rfl rfl rfl rfl Tryd.isAgg41 Tryd.sizeOf41 rfl ?_) | (refine wpl_loadW hE 6 rfl rfl rfl rfl Tryd.isAgg41 Tryd.sizeOf41 rfl ?_) | (refine wpl_loadW hE 7 rfl rfl rfl rfl Tryd.isAgg41 Tryd.sizeOf41 rfl ?_)))
        | ((with_reducible (show Go.wpList _ _ _ (Go.Oper.mk _ (.store 41 _ _) _ _ _ _ :: _) _ _)); (first | (refine wpl_storeW hE 0 rfl rfl rfl (xs := [.string ⟨px.toArray⟩, .bool pd, .string ⟨pb.toArray⟩]) rfl rfl Tryd.sizeOf41 rfl (by simp [Value.oneCell']) rfl ?_) | (refine wpl_storeW hE 1 rfl rfl rfl (xs := [.string ⟨px.toArray⟩, .bool pd, .string ⟨pb.toArray⟩]) rfl rfl Tryd.sizeOf41 rfl (by simp [Value.oneCell']) rfl ?_) | (refine wpl_storeW hE 2 rfl rfl rfl (xs := [.string ⟨px.toArray⟩, .bool pd, .string ⟨pb.toArray⟩]) rfl rfl Tryd.sizeOf41 rfl (by simp [Value.oneCell']) rfl ?_) | (refine wpl_storeW hE 3 rfl rfl rfl (xs := [.string ⟨px.toArray⟩, .bool pd, .string ⟨pb.toArray⟩]) rfl rfl Tryd.sizeOf41 rfl (by simp [Value.oneCell']) rfl ?_) | (refine wpl_storeW hE 4 rfl rfl rfl (xs := [.string ⟨px.toArray⟩, .bool pd, .string ⟨pb.toArray⟩]) rfl rfl Tryd.sizeOf41 rfl (by simp [Value.oneCell']) rfl ?_) | (refine wpl_storeW hE 5 rfl rfl rfl (xs := [.string ⟨px.toArray⟩, .bool pd, .string ⟨pb.toArray⟩]) rfl rfl Tryd.sizeOf41 rfl (by simp [Value.oneCell']) rfl ?_) | (refine wpl_storeW hE 6 rfl rfl rfl (xs := [.string ⟨px.toArray⟩, .bool pd, .string ⟨pb.toArray⟩]) rfl rfl Tryd.sizeOf41 rfl (by simp [Value.oneCell']) rfl ?_) | (refine wpl_storeW hE 7 rfl rfl rfl (xs := [.string ⟨px.toArray⟩, .bool pd, .string ⟨pb.toArray⟩]) rfl rfl Tryd.sizeOf41 rfl (by simp [Value.oneCell']) rfl ?_)); clear hE; intro w hE; simp only [List.set_cons_zero, List.set_cons_succ] at hE))
      refine bodyPost_ret (results_cell2 rfl hE 1 rfl rfl Tryd.isAgg41 Tryd.sizeOf41 rfl rfl) rfl ?_
      exact ⟨_, rfl, [_, _, _], by rw [HT.out]; simp only [Hpx.out, Hpd.out, Hpb.out, if_true]; rfl, hE⟩
end Go.Proofs.YtjmllpgmbaoebaaDoor
namespace Go.Proofs.YtjmllpgmbaoebaaDoor
open Go.RowKit Go.SL

theorem eqInf (n : List UInt8) (d : Bool) (k : Int) (w : World) : (Op.equalIn 10000 47 (.agg #[.string ⟨n.toArray⟩, .bool d, .int .i64 k]) (.agg #[.string ⟨n.toArray⟩, .bool d, .int .i64 k])).run Tryd.prog w = .ok true w := by
  have h := run_equalIn_agg (P := Tryd.prog) (w := w) 9999 47 #[.string ⟨n.toArray⟩, .bool d, .int .i64 k] #[.string ⟨n.toArray⟩, .bool d, .int .i64 k] (by kernel_rfl) (by kernel_rfl)
  refine h.trans ?_
  simp [go_sem]
theorem inC_len (x : List UInt8 × Tr) : (inC x).length = 3 := rfl
theorem inC_flat_len (xs : List (List UInt8 × Tr)) : (xs.flatMap inC).length = xs.length * 3 := flatMap_len inC 3 inC_len xs
/-- what is told of a kid, read whole -/
theorem load_inf {ao : Option Addr} {c : Nat} {ks : List (List UInt8 × Tr)} {w : World} (hr : reads (.slice ao ks.length c) ks.length (ks.flatMap inC) w) {k : Nat} (hk : k < ks.length) :
    ∃ b off, ao = some ⟨b, off, none⟩ ∧ (Instr.loadAt 47 (.pointer (some ⟨b, off + k * 3, none⟩))).run Tryd.prog w = .ok (.agg #[.string ⟨ks[k].1.toArray⟩, .bool ks[k].2.dir, .int .i64 ks[k].2.data.length]) w := by
  obtain ⟨b, off, rfl, hc⟩ := reads_form hr (by omega) (by rw [inC_flat_len]; omega)
  refine ⟨b, off, rfl, atCells Tryd.isAgg47 Tryd.sizeOf47 (inC ks[k]) rfl (fun j v hv => ?_)⟩
  rw [Addr.add_lit, Nat.add_assoc]
  exact hc _ _ (flatMap_at inC 3 inC_len ks k j ks[k] v (List.getElem?_eq_getElem hk) hv)
theorem load_inf2 {b off c : Nat} {ks : List (List UInt8 × Tr)} {w : World} (hr : reads (.slice (some ⟨b, off, none⟩) ks.length c) ks.length (ks.flatMap inC) w) {k : Nat} (hk : k < ks.length) :
    (Instr.loadAt 47 (.pointer (some ⟨b, off + k * 3, none⟩))).run Tryd.prog w = .ok (.agg #[.string ⟨ks[k].1.toArray⟩, .bool ks[k].2.dir, .int .i64 ks[k].2.data.length]) w := by
  obtain ⟨b', o', e, h⟩ := load_inf hr hk
  cases e
  exact h
theorem cut_at (pre n : List UInt8) : (⟨(pre ++ n).toArray⟩ : ByteArray).extract pre.length (pre ++ n).length = ⟨n.toArray⟩ := by
  rw [extract_mk, List.drop_left, List.take_of_length_le (by simp)]
/-- what stands ahead of a kid's name in its path -/
theorem pre_of {q : List (List UInt8)} (h : q.all isName = true) : ∃ pre : List UInt8, (∀ n, joinP (q ++ [n]) = pre ++ n) ∧ ((decide ((0 : Int) < ((joinP q).length : Int)) = false ∧ (decide (0 < (joinP q).length) = false) ∧ (¬ 0 < (joinP q).length) ∧ pre.length = (joinP q).length) ∨ (decide ((0 : Int) < ((joinP q).length : Int)) = true ∧ (decide (0 < (joinP q).length) = true) ∧ (0 < (joinP q).length) ∧ pre.length = (joinP q).length + 1)) := by
  by_cases h0 : q = []
  · subst h0
    exact ⟨[], fun n => by rw [List.nil_append, joinP_one]; rfl, .inl ⟨rfl, rfl, Nat.lt_irrefl 0, rfl⟩⟩
  · have := joinP_ne h0 h
    have : 0 < (joinP q).length := List.length_pos_iff.2 this
    exact ⟨joinP q ++ [47], fun n => by rw [joinP_end h0]; simp, .inr ⟨decide_eq_true (by omega), decide_eq_true this, this, by simp⟩⟩
theorem wf_file {d : Nat} {t : Tr} (h : Tr.Wf d t) (hd : t.dir = false) : t.kids = [] := by
  cases d with
  | zero => exact h.1
  | succ d => exact h.1 hd
end Go.Proofs.YtjmllpgmbaoebaaDoor
namespace Go.Proofs.YtjmllpgmbaoebaaDoor
open Go.RowKit Go.SL

def NsRel (q : List (List UInt8)) (l : List HProp) (i : Value) (wr : World) : Prop := ∃ k : Nat, k ≤ q.length ∧ i = .int .i64 k ∧ (∀ x ∈ q.take k, x.length ≤ 200) ∧ Ent l wr
set_option maxRecDepth 100000 in
set_option maxHeartbeats 8000000 in
attribute [-go_sem] Instr.loadAt Go.run_equalIn_agg in
theorem FoldBuilds_any {es : List En} {q : List (List UInt8)} {ao an : Option Addr} {c cn : Nat} (hqc : q.length ≤ cn) {l : List HProp} {w : World} (hk : Knows l (reads (.slice ao es.length c) es.length (es.flatMap enC))) (hn : Knows l (reads (.slice an q.length cn) q.length (q.map strv))) (hE : Ent l w) :
    Calls Tryd.prog 3 #[.slice ao es.length c, .slice an q.length cn] w (Ret fun v w' => v = .bool true ∧ Ent l w') := by
  have HGr := SL.hid (show ∀ w, Ent l w → Calls Tryd.prog 8 #[.slice ao es.length c] w (Ret fun v w' => v = .bool (great es) ∧ Ent l w') from fun w h => Great_any hk h)
  have HWk := SL.hid (fun (L : List HProp) (w : World) (h : Ent L w) => wakes20_any h)
  cases hgr : great es with
  | true =>
    rw [hgr] at HGr
    clear hgr
    go_enter Tryd.func3, Tryd.ntmps3
    go_wp2_with (first
      | go_skip
      | (go_at_call 8; refine (HGr.out _ hE).mono ?_; clear hE; rintro e w2 ⟨v, rfl, rfl, hE⟩)
      | (go_at_call 9; refine (HWk.out _ _ hE).mono ?_; clear hE; rintro e w3 ⟨v, rfl, rfl, hE⟩))
    go_ret
    exact ⟨_, rfl, rfl, hE⟩
  | false =>
    rw [hgr] at HGr
    obtain ⟨hle, hbd⟩ := great_not.1 hgr
    clear hgr
    cases h10 : decide ((10 : Int) < (q.length : Int)) with
    | true =>
      go_enter Tryd.func3, Tryd.ntmps3
      go_wp2_with (first
        | go_skip
        | (go_at_call 8; refine (HGr.out _ hE).mono ?_; clear hE; rintro e w2 ⟨v, rfl, rfl, hE⟩)
        | (go_at_call 9; refine (HWk.out _ _ hE).mono ?_; clear hE; rintro e w3 ⟨v, rfl, rfl, hE⟩))
      go_ret
      exact ⟨_, rfl, rfl, hE⟩
    | false =>
      have hq10 : q.length ≤ 10 := by have := of_decide_eq_false h10; omega
      go_enter Tryd.func3, Tryd.ntmps3
      go_wp2_with (first
        | go_skip
        | (go_at_call 8; refine (HGr.out _ hE).mono ?_; clear hE; rintro e w2 ⟨v, rfl, rfl, hE⟩))
      clear h10 HGr
      go_loopw [5] (fun i wr => NsRel q l i wr) (fun i _ => q.length - (intOf i).toNat)
      case atStart => exact ⟨0, Nat.zero_le _, rfl, by simp, hE⟩
      case round =>
        clear hE
        obtain ⟨k, hkn, rfl, hin, hE⟩ := hrel
        have Hin := SL.hid hin
        clear hin
        by_cases hlt : k < q.length
        · obtain ⟨bn, on, rfl, hz⟩ := reads_form (hn _ hE) (by omega) (by rw [List.length_map]; omega)
          clear hz
          have hln : (Instr.loadAt 9 (.pointer (some ⟨bn, on + k, none⟩))).run Tryd.prog wr = .ok (.string ⟨q[k].toArray⟩) wr := atCell (str_cells (hn _ hE) hlt) (by simp [go_sem])
          have htk := SL.hid (List.take_succ_eq_append_getElem hlt)
          generalize q[k] = x at *
          cases hp : decide ((200 : Int) < (x.length : Int)) with
          | true =>
            go_wp2_with (first
              | go_skip
              | (go_at_call 9; refine (HWk.out _ _ hE).mono ?_; clear hE; rintro e w3 ⟨v, rfl, rfl, hE⟩))
            go_ret
            exact ⟨_, rfl, rfl, hE⟩
          | false =>
            go_wp2
            go_roundw
            case rel =>
              refine ⟨k + 1, hlt, by first | rfl | simp, ?_, hE⟩
              rw [htk.out]
              intro y hy
              rcases List.mem_append.1 hy with h | h
              · exact Hin.out y h
              · rw [List.mem_singleton.1 h]
                have := of_decide_eq_false hp
                omega
            case measure => simp [intOf]; omega
        · obtain rfl : k = q.length := by omega
          have hx : ∀ x ∈ q, x.length ≤ 200 := by have := Hin.out; rwa [List.take_length] at this
          have hbs := (build_same es).1
          have HB2 := SL.hid (fun (L2 : List HProp) (w : World) (hs : l <:+ L2) (h : Ent L2 w) => rBuild_any (es := es) (by omega) (fun x hx => ⟨by have := (hbd x hx).1; omega, by have := (hbd x hx).2; omega⟩) (hk.suf hs) h)
          clear Hin hkn hlt
          cases he : ((buildT es).1 == 0) with
          | false =>
            have HBu := SL.hid (show ∀ w, Ent l w → Calls Tryd.prog 10 #[.slice ao es.length c] w (Ret fun v w' => ∃ m a c, v = .tuple #[.agg #[.bool false, .string ⟨#[]⟩, .slice a 0 c], .int .i64 (buildT es).1] ∧ Ent (m ++ l) w') from fun w h => by
              refine (Build_any (by omega) (fun x hx => ⟨by have := (hbd x hx).1; omega, by have := (hbd x hx).2; omega⟩) hk h).mono ?_
              rintro e w' ⟨v, rfl, m, kv, h, hE, hK⟩
              rw [buildT_zero (by simpa using he)] at h hK
              obtain ⟨a, c', rfl⟩ := hK.slice
              exact ⟨_, rfl, m, a, c', h, hE⟩)
            have HRb := SL.hid (show ∀ (A : HProp) (m : List HProp) (w : World), Ent (A :: (m ++ l)) w → Calls Tryd.prog 11 #[.slice ao es.length c] w (Ret fun v w' => ∃ m2 a n c, v = .tuple #[.agg #[.slice a n c], .int .i64 (buildT es).1] ∧ Ent (A :: (m2 ++ (m ++ l))) w') from fun A m w h => by
              refine (HB2.out _ _ ((List.suffix_append m l).trans (List.suffix_cons _ _)) h).mono ?_
              rintro e w' ⟨v, rfl, m2, a, c', rfl, hE, _⟩
              exact ⟨_, rfl, m2, a, _, c', by rw [hbs], Ent.swap (a := m2) (b := [A]) hE⟩)
            have hne : ((buildT es).1 != 0) = true := by rw [bne, he]; rfl
            clear he hbs hbd HB2 hk hn
            generalize (buildT es).1 = er at *
            have Tok := SL.hid True.intro
            go_wp2_with (first
              | go_skip
              | (go_at_call 10; refine (HBu.out _ hE).mono ?_; clear hE; rintro e w3 ⟨v, rfl, m, a, c', rfl, hE⟩)
              | (go_at_call 11; refine (HRb.out _ _ _ hE).mono ?_; clear hE; rintro e w3 ⟨v, rfl, m2, a2, n2, c2, rfl, hE⟩)
              | (go_at_call 9; refine (HWk.out _ _ hE).mono ?_; clear hE; rintro e w3 ⟨v, rfl, rfl, hE⟩)
              | ((with_reducible (show Go.wpList _ _ _ (Go.Oper.mk _ (.alloc _) _ _ _ _ :: _) _ _)); clear Tok; ((with_reducible (show Go.wpList _ _ _ (Go.Oper.mk _ (.alloc _) _ _ _ _ :: _) _ _)); refine wpl_alloc hE rfl rfl (by simp [go_sem]; rfl) ?_; clear hE; intro b6 w hE; simp only [Act.eval, Act.put, List.setIfInBounds_toArray, List.set_cons_zero, List.set_cons_succ, getD_lit, List.getD_cons_succ, List.getD_cons_zero, Value.cells] at hE))
              | ((with_reducible (show Go.wpList _ _ _ (Go.Oper.mk _ (.alloc _) _ _ _ _ :: _) _ _)); refine wpl_alloc hE rfl rfl (by simp [go_sem]; rfl) ?_; clear hE; intro b8 w hE; simp only [Act.eval, Act.put, List.setIfInBounds_toArray, List.set_cons_zero, List.set_cons_succ, getD_lit, List.getD_cons_succ, List.getD_cons_zero, Value.cells] at hE)
              | ((with_reducible (show Go.wpList _ _ _ (Go.Oper.mk _ (.store 28 _ _) _ _ _ _ :: _) _ _)); (first | (refine wpl_storeW hE 0 rfl rfl rfl (xs := [.bool false, .string ⟨#[]⟩, .slice a 0 c']) rfl rfl Tryd.sizeOf28 rfl (by simp [Value.oneCell']) rfl ?_) | (refine wpl_storeW hE 1 rfl rfl rfl (xs := [.bool false, .string ⟨#[]⟩, .slice a 0 c']) rfl rfl Tryd.sizeOf28 rfl (by simp [Value.oneCell']) rfl ?_) | (refine wpl_storeW hE 2 rfl rfl rfl (xs := [.bool false, .string ⟨#[]⟩, .slice a 0 c']) rfl rfl Tryd.sizeOf28 rfl (by simp [Value.oneCell']) rfl ?_) | (refine wpl_storeW hE 3 rfl rfl rfl (xs := [.bool false, .string ⟨#[]⟩, .slice a 0 c']) rfl rfl Tryd.sizeOf28 rfl (by simp [Value.oneCell']) rfl ?_) | (refine wpl_storeW hE 4 rfl rfl rfl (xs := [.bool false, .string ⟨#[]⟩, .slice a 0 c']) rfl rfl Tryd.sizeOf28 rfl (by simp [Value.oneCell']) rfl ?_) | (refine wpl_storeW hE 5 rfl rfl rfl (xs := [.bool false, .string ⟨#[]⟩, .slice a 0 c']) rfl rfl Tryd.sizeOf28 rfl (by simp [Value.oneCell']) rfl ?_) | (refine wpl_storeW hE 6 rfl rfl rfl (xs := [.bool false, .string ⟨#[]⟩, .slice a 0 c']) rfl rfl Tryd.sizeOf28 rfl (by simp [Value.oneCell']) rfl ?_) | (refine wpl_storeW hE 7 rfl rfl rfl (xs := [.bool false, .string ⟨#[]⟩, .slice a 0 c']) rfl rfl Tryd.sizeOf28 rfl (by simp [Value.oneCell']) rfl ?_)); clear hE; intro w hE; simp only [List.set_cons_zero, List.set_cons_succ] at hE)
              | ((with_reducible (show Go.wpList _ _ _ (Go.Oper.mk _ (.store 33 _ _) _ _ _ _ :: _) _ _)); (first | (refine wpl_storeW hE 0 rfl rfl rfl (xs := [.slice a2 n2 c2]) rfl rfl Tryd.sizeOf33 rfl (by simp [Value.oneCell']) rfl ?_) | (refine wpl_storeW hE 1 rfl rfl rfl (xs := [.slice a2 n2 c2]) rfl rfl Tryd.sizeOf33 rfl (by simp [Value.oneCell']) rfl ?_) | (refine wpl_storeW hE 2 rfl rfl rfl (xs := [.slice a2 n2 c2]) rfl rfl Tryd.sizeOf33 rfl (by simp [Value.oneCell']) rfl ?_) | (refine wpl_storeW hE 3 rfl rfl rfl (xs := [.slice a2 n2 c2]) rfl rfl Tryd.sizeOf33 rfl (by simp [Value.oneCell']) rfl ?_) | (refine wpl_storeW hE 4 rfl rfl rfl (xs := [.slice a2 n2 c2]) rfl rfl Tryd.sizeOf33 rfl (by simp [Value.oneCell']) rfl ?_) | (refine wpl_storeW hE 5 rfl rfl rfl (xs := [.slice a2 n2 c2]) rfl rfl Tryd.sizeOf33 rfl (by simp [Value.oneCell']) rfl ?_) | (refine wpl_storeW hE 6 rfl rfl rfl (xs := [.slice a2 n2 c2]) rfl rfl Tryd.sizeOf33 rfl (by simp [Value.oneCell']) rfl ?_) | (refine wpl_storeW hE 7 rfl rfl rfl (xs := [.slice a2 n2 c2]) rfl rfl Tryd.sizeOf33 rfl (by simp [Value.oneCell']) rfl ?_)); clear hE; intro w hE; simp only [List.set_cons_zero, List.set_cons_succ] at hE)
              | ((with_reducible (show Go.wpList _ _ _ (Go.Oper.mk _ (.load _ _) _ _ _ _ :: _) _ _)); (first | (refine wpl_load1 hE 0 rfl rfl rfl rfl (by simp [go_sem]) rfl ?_) | (refine wpl_load1 hE 1 rfl rfl rfl rfl (by simp [go_sem]) rfl ?_) | (refine wpl_load1 hE 2 rfl rfl rfl rfl (by simp [go_sem]) rfl ?_) | (refine wpl_load1 hE 3 rfl rfl rfl rfl (by simp [go_sem]) rfl ?_) | (refine wpl_load1 hE 4 rfl rfl rfl rfl (by simp [go_sem]) rfl ?_) | (refine wpl_load1 hE 5 rfl rfl rfl rfl (by simp [go_sem]) rfl ?_) | (refine wpl_load1 hE 6 rfl rfl rfl rfl (by simp [go_sem]) rfl ?_) | (refine wpl_load1 hE 7 rfl rfl rfl rfl (by simp [go_sem]) rfl ?_))))
            go_ret
            exact ⟨_, rfl, rfl, hE.tail.tail.drop.drop⟩
          | true =>
            have he0 : (buildT es).1 = 0 := by simpa using he
            have hG := ((build_same es).2 he0).1
            have hes := ((build_same es).2 he0).2
            rw [hes] at hG
            have hdir : (buildT es).2.dir = true := hG.2.2.1
            have HBu := SL.hid (show ∀ w, Ent l w → Calls Tryd.prog 10 #[.slice ao es.length c] w (Ret fun v w' => ∃ m a c, v = .tuple #[.agg #[.bool true, .string ⟨(buildT es).2.data.toArray⟩, .slice a (buildT es).2.kids.length c], .int .i64 0] ∧ Ent (m ++ l) w' ∧ KidsAt (m ++ l) (.slice a (buildT es).2.kids.length c) (buildT es).2.kids) from fun w h => by
              refine (Build_any (by omega) (fun x hx => ⟨by have := (hbd x hx).1; omega, by have := (hbd x hx).2; omega⟩) hk h).mono ?_
              rintro e w' ⟨v, rfl, m, kv, h, hE, hK⟩
              rw [he0] at h
              obtain ⟨a, c', rfl⟩ := hK.slice
              exact ⟨_, rfl, m, a, c', by rw [← hdir]; exact h, hE, hK⟩)
            have HRb := SL.hid (show ∀ (A : HProp) (m : List HProp) (w : World), Ent (A :: (m ++ l)) w → Calls Tryd.prog 11 #[.slice ao es.length c] w (Ret fun v w' => ∃ m2 a c, v = .tuple #[.agg #[.slice a es.length c], .int .i64 0] ∧ Ent (A :: (m2 ++ (m ++ l))) w' ∧ Knows (m2 ++ (A :: (m ++ l))) (reads (.slice a es.length c) es.length (es.flatMap enC))) from fun A m w h => by
              refine (HB2.out _ _ ((List.suffix_append m l).trans (List.suffix_cons _ _)) h).mono ?_
              rintro e w' ⟨v, rfl, m2, a, c', rfl, hE, hkn⟩
              rw [hes] at hkn
              exact ⟨_, rfl, m2, a, c', by rw [← hbs, he0, hes], Ent.swap (a := m2) (b := [A]) hE, hkn⟩)
            clear he he0 hes hbs HB2
            generalize (buildT es).2 = t at *
            have Tok := SL.hid True.intro
            go_wp2_with (first
              | go_skip
              | (go_at_call 10; refine (HBu.out _ hE).mono ?_; clear hE; rintro e w3 ⟨v, rfl, m, a, c', rfl, hE, hKA⟩)
              | (go_at_call 11; refine (HRb.out _ _ _ hE).mono ?_; clear hE; rintro e w3 ⟨v, rfl, m2, a2, c2, rfl, hE, hKn⟩)
              | ((with_reducible (show Go.wpList _ _ _ (Go.Oper.mk _ (.alloc _) _ _ _ _ :: _) _ _)); clear Tok; ((with_reducible (show Go.wpList _ _ _ (Go.Oper.mk _ (.alloc _) _ _ _ _ :: _) _ _)); refine wpl_alloc hE rfl rfl (by simp [go_sem]; rfl) ?_; clear hE; intro b6 w hE; simp only [Act.eval, Act.put, List.setIfInBounds_toArray, List.set_cons_zero, List.set_cons_succ, getD_lit, List.getD_cons_succ, List.getD_cons_zero, Value.cells] at hE))
              | ((with_reducible (show Go.wpList _ _ _ (Go.Oper.mk _ (.alloc _) _ _ _ _ :: _) _ _)); refine wpl_alloc hE rfl rfl (by simp [go_sem]; rfl) ?_; clear hE; intro b8 w hE; simp only [Act.eval, Act.put, List.setIfInBounds_toArray, List.set_cons_zero, List.set_cons_succ, getD_lit, List.getD_cons_succ, List.getD_cons_zero, Value.cells] at hE)
              | ((with_reducible (show Go.wpList _ _ _ (Go.Oper.mk _ (.store 28 _ _) _ _ _ _ :: _) _ _)); (first | (refine wpl_storeW hE 0 rfl rfl rfl (xs := [.bool true, .string ⟨t.data.toArray⟩, .slice a t.kids.length c']) rfl rfl Tryd.sizeOf28 rfl (by simp [Value.oneCell']) rfl ?_) | (refine wpl_storeW hE 1 rfl rfl rfl (xs := [.bool true, .string ⟨t.data.toArray⟩, .slice a t.kids.length c']) rfl rfl Tryd.sizeOf28 rfl (by simp [Value.oneCell']) rfl ?_) | (refine wpl_storeW hE 2 rfl rfl rfl (xs := [.bool true, .string ⟨t.data.toArray⟩, .slice a t.kids.length c']) rfl rfl Tryd.sizeOf28 rfl (by simp [Value.oneCell']) rfl ?_) | (refine wpl_storeW hE 3 rfl rfl rfl (xs := [.bool true, .string ⟨t.data.toArray⟩, .slice a t.kids.length c']) rfl rfl Tryd.sizeOf28 rfl (by simp [Value.oneCell']) rfl ?_) | (refine wpl_storeW hE 4 rfl rfl rfl (xs := [.bool true, .string ⟨t.data.toArray⟩, .slice a t.kids.length c']) rfl rfl Tryd.sizeOf28 rfl (by simp [Value.oneCell']) rfl ?_) | (refine wpl_storeW hE 5 rfl rfl rfl (xs := [.bool true, .string ⟨t.data.toArray⟩, .slice a t.kids.length c']) rfl rfl Tryd.sizeOf28 rfl (by simp [Value.oneCell']) rfl ?_) | (refine wpl_storeW hE 6 rfl rfl rfl (xs := [.bool true, .string ⟨t.data.toArray⟩, .slice a t.kids.length c']) rfl rfl Tryd.sizeOf28 rfl (by simp [Value.oneCell']) rfl ?_) | (refine wpl_storeW hE 7 rfl rfl rfl (xs := [.bool true, .string ⟨t.data.toArray⟩, .slice a t.kids.length c']) rfl rfl Tryd.sizeOf28 rfl (by simp [Value.oneCell']) rfl ?_)); clear hE; intro w hE; simp only [List.set_cons_zero, List.set_cons_succ] at hE)
              | ((with_reducible (show Go.wpList _ _ _ (Go.Oper.mk _ (.store 33 _ _) _ _ _ _ :: _) _ _)); (first | (refine wpl_storeW hE 0 rfl rfl rfl (xs := [.slice a2 es.length c2]) rfl rfl Tryd.sizeOf33 rfl (by simp [Value.oneCell']) rfl ?_) | (refine wpl_storeW hE 1 rfl rfl rfl (xs := [.slice a2 es.length c2]) rfl rfl Tryd.sizeOf33 rfl (by simp [Value.oneCell']) rfl ?_) | (refine wpl_storeW hE 2 rfl rfl rfl (xs := [.slice a2 es.length c2]) rfl rfl Tryd.sizeOf33 rfl (by simp [Value.oneCell']) rfl ?_) | (refine wpl_storeW hE 3 rfl rfl rfl (xs := [.slice a2 es.length c2]) rfl rfl Tryd.sizeOf33 rfl (by simp [Value.oneCell']) rfl ?_) | (refine wpl_storeW hE 4 rfl rfl rfl (xs := [.slice a2 es.length c2]) rfl rfl Tryd.sizeOf33 rfl (by simp [Value.oneCell']) rfl ?_) | (refine wpl_storeW hE 5 rfl rfl rfl (xs := [.slice a2 es.length c2]) rfl rfl Tryd.sizeOf33 rfl (by simp [Value.oneCell']) rfl ?_) | (refine wpl_storeW hE 6 rfl rfl rfl (xs := [.slice a2 es.length c2]) rfl rfl Tryd.sizeOf33 rfl (by simp [Value.oneCell']) rfl ?_) | (refine wpl_storeW hE 7 rfl rfl rfl (xs := [.slice a2 es.length c2]) rfl rfl Tryd.sizeOf33 rfl (by simp [Value.oneCell']) rfl ?_)); clear hE; intro w hE; simp only [List.set_cons_zero, List.set_cons_succ] at hE)
              | ((with_reducible (show Go.wpList _ _ _ (Go.Oper.mk _ (.load _ _) _ _ _ _ :: _) _ _)); (first | (refine wpl_load1 hE 0 rfl rfl rfl rfl (by simp [go_sem]) rfl ?_) | (refine wpl_load1 hE 1 rfl rfl rfl rfl (by simp [go_sem]) rfl ?_) | (refine wpl_load1 hE 2 rfl rfl rfl rfl (by simp [go_sem]) rfl ?_) | (refine wpl_load1 hE 3 rfl rfl rfl rfl (by simp [go_sem]) rfl ?_) | (refine wpl_load1 hE 4 rfl rfl rfl rfl (by simp [go_sem]) rfl ?_) | (refine wpl_load1 hE 5 rfl rfl rfl rfl (by simp [go_sem]) rfl ?_) | (refine wpl_load1 hE 6 rfl rfl rfl rfl (by simp [go_sem]) rfl ?_) | (refine wpl_load1 hE 7 rfl rfl rfl rfl (by simp [go_sem]) rfl ?_))))
            clear HBu HRb
            obtain ⟨N, hN⟩ : ∃ N, N = pt b6 (.cells #[.bool true, .string ⟨t.data.toArray⟩, .slice a t.kids.length c'] 28) := ⟨_, rfl⟩
            have HKn := SL.hid (show Knows (pt b6 (.cells #[.bool true, .string ⟨t.data.toArray⟩, .slice a t.kids.length c'] 28) :: (m2 ++ (m ++ l))) _ from fun w h => hKn w (Ent.swap (a := [pt b6 (.cells #[.bool true, .string ⟨t.data.toArray⟩, .slice a t.kids.length c'] 28)]) (b := m2) h))
            clear hN N hKn
            have hw := hG.2.1
            have hall := all_perm hG
            have hb2 : ∀ x ∈ es, x.path.length ≤ 1000000 := fun x hx => by have := (hbd x hx).1; omega
            have HEn := SL.hid (fun (L : List HProp) (w : World) (hs : (m ++ l) <:+ L) (hE : Ent L w) =>
              show Calls Tryd.prog 13 #[.agg #[.bool true, .string ⟨t.data.toArray⟩, .slice a t.kids.length c']] w (Ret fun v w' => ∃ a' c' m, v = .slice a' (entT 6 [] t).length c' ∧ Ent (rowEn a' c' (entT 6 [] t) :: (m ++ L)) w') from by
                rw [← hdir]
                exact Entries_any hw (by decide) (hKA.suf hs) (by rw [hall.length_eq]; omega) hE)
            have HRE := SL.hid (fun (L : List HProp) (w : World) (hs : _ <:+ L) (hE : Ent L w) => rEntries_any hG (by omega) hb2 HKn.out hs hE)
            have HRo1 := SL.hid (fun (a4 : Option Addr) (c4 : Nat) (a5 : Option Addr) (c5 : Nat) (m4 m5 L : List HProp) (w : World) (hE : Ent (rowEn a5 c5 (entT 6 [] t) :: (m5 ++ (rowEn a4 c4 (entT 6 [] t) :: (m4 ++ L)))) w) =>
              Row_same (es := entT 6 [] t) (by rw [hall.length_eq]; omega) (ao := a4) (bo := a5) (c := c4) (d := c5) (fun w h => reads_row h.tail.drop 0 rfl) (fun w h => reads_row h 0 rfl) hE)
            have HRo2 := SL.hid (fun (a4 : Option Addr) (c4 : Nat) (a5 : Option Addr) (c5 : Nat) (m4 m5 L : List HProp) (w : World) (hE : Ent (rowEn a4 c4 (entT 6 [] t) :: (m4 ++ (rowEn a5 c5 (entT 6 [] t) :: (m5 ++ L)))) w) =>
              Row_same (es := entT 6 [] t) (by rw [hall.length_eq]; omega) (ao := a4) (bo := a5) (c := c4) (d := c5) (fun w h => reads_row h 0 rfl) (fun w h => reads_row h.tail.drop 0 rfl) hE)
            obtain ⟨er, p, hat⟩ : ∃ er p, atT 11 10 q t = (er, p) := ⟨_, _, rfl⟩
            obtain ⟨P, hP⟩ : ∃ P, (if er = 0 then joinP q else []) = P := ⟨_, rfl⟩
            have HAt := SL.hid (fun (L : List HProp) (w : World) (hs : (m ++ l) <:+ L) (hE : Ent L w) =>
              show Calls Tryd.prog 15 #[.agg #[.bool true, .string ⟨t.data.toArray⟩, .slice a t.kids.length c'], .slice an q.length cn] w (Ret fun v w' => ∃ a3 c3, v = .tuple #[.agg #[.bool p.dir, .string ⟨p.data.toArray⟩, .slice a3 p.kids.length c3], .int .i64 er] ∧ Ent L w' ∧ KidsAt (m ++ l) (.slice a3 p.kids.length c3) p.kids) from by
                rw [← hdir]
                refine (At_in (lk := m ++ l) hw (fun W h => h.suf hs) hKA (by omega) (hn.suf ((List.suffix_append m l).trans hs)) hE).mono ?_
                rintro e w' ⟨v, rfl, kv', h, hE, hK⟩
                rw [hat] at h hK
                obtain ⟨a3, c3, rfl⟩ := hK.slice
                exact ⟨_, rfl, a3, c3, h, hE, hK⟩)
            have HRA := SL.hid (fun (A B : HProp) (L : List HProp) (w : World) (hs : (pt b6 (.cells #[.bool true, .string ⟨t.data.toArray⟩, .slice a t.kids.length c'] 28) :: (m2 ++ (m ++ l))) <:+ L) (hE : Ent (A :: B :: L) w) =>
              show Calls Tryd.prog 16 #[.agg #[.slice a2 es.length c2], .slice an q.length cn] w (Ret fun v w' => ∃ m5, v = .tuple #[.agg #[.string ⟨P.toArray⟩, .bool p.dir, .string ⟨p.data.toArray⟩], .int .i64 er] ∧ Ent (A :: B :: (m5 ++ L)) w') from by
                have hs2 := hs.trans ((List.suffix_cons B L).trans (List.suffix_cons A (B :: L)))
                refine (rAt_any (l := A :: B :: L) hG (by omega) hb2 (by omega) (fun x h => by have := hx x h; omega) hqc (hn.suf (((List.suffix_append m l).trans ((List.suffix_append m2 _).trans (List.suffix_cons _ _))).trans hs2)) (HKn.out.suf hs2) hE).mono ?_
                rintro e w' ⟨v, rfl, m5, h, hE⟩
                rw [hat, hP] at h
                exact ⟨_, rfl, m5, h, Ent.swap (a := m5) (b := [A, B]) hE⟩)
            have Hx2 := SL.hid (And.intro hx (And.intro hn hk))
            have Hp := SL.hid (atT_get (kE := 11) (nE := 10) (by decide) (by decide) (q := q) hw)
            rw [hat] at Hp
            have Hhw := SL.hid hw
            have HG := SL.hid hG
            have Hb2 := SL.hid hb2
            clear hx hn hk hw hall hbd hat hb2 hG
            generalize hae : entT 6 [] t = all at *
            clear hae
            go_wp2
            refine wp_region_held_drew (S := (fun w' => ((Instr.loadAt 4 (.pointer (some ⟨b6, 0, none⟩))).run Tryd.prog w' = .ok (.bool true) w') ∧ ((Instr.loadAt 28 (.pointer (some ⟨b6, 0, none⟩))).run Tryd.prog w' = .ok (.agg [.bool true, .string ⟨t.data.toArray⟩, .slice a t.kids.length c'].toArray) w') ∧ ((Instr.loadAt 33 (.pointer (some ⟨b8, 0, none⟩))).run Tryd.prog w' = .ok (.agg [.slice a2 es.length c2].toArray) w'))) (by kernel_rfl) ⟨(atVm hE.drew (by repeat (first | exact List.Mem.head _ | refine List.Mem.tail _ ?_)) (by simp [go_sem]) rfl), (atWm hE.drew (by repeat (first | exact List.Mem.head _ | refine List.Mem.tail _ ?_)) Tryd.isAgg28 Tryd.sizeOf28 rfl), (atWm hE.drew (by repeat (first | exact List.Mem.head _ | refine List.Mem.tail _ ?_)) Tryd.isAgg33 Tryd.sizeOf33 rfl)⟩ (fun hS => ?_)
            refine takeW 0 ⟨some 66, .fieldAddr 28 (.tmp 6) 0, 0, "law.go:65", #[], none⟩ ?_ (.inl ⟨by rfl, ?_⟩) hS ?_
            rotate_left
            · (intro w hSw; (try dsimp only at hSw); go_simp; (try with_reducible rfl))
            try simp only [Act.put, sb, s0, sz]
            refine takeW 1 ⟨some 67, .load 4 (.tmp 66), 4, "law.go:65", #[⟨0, .data⟩], none⟩ ?_ (.inl ⟨by rfl, ?_⟩) hS ?_
            rotate_left
            · (intro w hSw; (try dsimp only at hSw); go_simp; (try with_reducible rfl))
            try simp only [Act.put, sb, s0, sz]
            refine takeW 2 ⟨some 68, .unOp Go.UnOp.not 4 (.tmp 67), 4, "law.go:65", #[⟨1, .data⟩], none⟩ ?_ (.inl ⟨by rfl, ?_⟩) hS ?_
            rotate_left
            · (intro w hSw; (try dsimp only at hSw); go_simp; (try with_reducible rfl))
            try simp only [Act.put, sb, s0, sz]
            refine takeW 3 ⟨some 69, .move (.tmp 68), 4, "law.go:65", #[⟨2, .data⟩], none⟩ ?_ (.inl ⟨by rfl, ?_⟩) hS ?_
            rotate_left
            · (intro w hSw; (try dsimp only at hSw); go_simp; (try with_reducible rfl))
            try simp only [Act.put, sb, s0, sz]
            refine takeW 4 ⟨some 70, .load 28 (.tmp 6), 28, "law.go:65", #[⟨3, .guard⟩], some (3, false)⟩ ?_ (.inl ⟨by rfl, ?_⟩) hS ?_
            rotate_left
            · (intro w hSw; (try dsimp only at hSw); go_simp; (try with_reducible rfl))
            try simp only [Act.put, sb, s0, sz]
            refine takeW 6 ⟨some 72, .load 33 (.tmp 8), 33, "law.go:65", #[⟨3, .guard⟩], some (3, false)⟩ ?_ (.inl ⟨by rfl, ?_⟩) hS ?_
            rotate_left
            · (intro w hSw; (try dsimp only at hSw); go_simp; (try with_reducible rfl))
            try simp only [Act.put, sb, s0, sz]
            refine wpAnyH_ready (rs := [5]) (by kernel_rfl) (by simp) ?_
            refine (AllReadyH.cons (o := { dst := some 71, op := Go.Op.call { callee := Go.Callee.value (Go.Operand.func 13), args := #[Go.Operand.tmp 70], argTypes := #[28] }, type := 22, pos := "law.go:65", after := #[{ on := 4, ground := Go.Ground.data }, { on := 3, ground := Go.Ground.chain }, { on := 3, ground := Go.Ground.guard }], guard := some (3, false) }) rfl (fun K hK => ?_) AllReadyH.nil)
            (go_simp; (first | have H := HEn.out _ _ (by repeat (first | exact List.suffix_refl _ | refine List.IsSuffix.trans ?_ (List.suffix_cons _ _) | refine List.IsSuffix.trans ?_ (List.suffix_append _ _))) hR | have H := HEn.out _ _ (by repeat (first | exact List.suffix_refl _ | refine List.IsSuffix.trans ?_ (List.suffix_cons _ _) | refine List.IsSuffix.trans ?_ (List.suffix_append _ _))) hE.drew); refine H.mono ?_; clear H; rintro e w3 ⟨v, rfl, a4, c4, m4, rfl, hN⟩)
            refine hK.out _ _ (by first | exact ⟨(atVm hN.tail.drop (by repeat (first | exact List.Mem.head _ | refine List.Mem.tail _ ?_)) (by simp [go_sem]) rfl), (atWm hN.tail.drop (by repeat (first | exact List.Mem.head _ | refine List.Mem.tail _ ?_)) Tryd.isAgg28 Tryd.sizeOf28 rfl), (atWm hN.tail.drop (by repeat (first | exact List.Mem.head _ | refine List.Mem.tail _ ?_)) Tryd.isAgg33 Tryd.sizeOf33 rfl)⟩ | exact ⟨(atVm hN.tail.drop.tail.drop (by repeat (first | exact List.Mem.head _ | refine List.Mem.tail _ ?_)) (by simp [go_sem]) rfl), (atWm hN.tail.drop.tail.drop (by repeat (first | exact List.Mem.head _ | refine List.Mem.tail _ ?_)) Tryd.isAgg28 Tryd.sizeOf28 rfl), (atWm hN.tail.drop.tail.drop (by repeat (first | exact List.Mem.head _ | refine List.Mem.tail _ ?_)) Tryd.isAgg33 Tryd.sizeOf33 rfl)⟩) (fun hS => ?_)
            clear hK K
            try simp only [Act.put, sb, s0, sz]
            refine wpAnyH_ready (rs := [7]) (by kernel_rfl) (by simp) ?_
            refine (AllReadyH.cons (o := { dst := some 73, op := Go.Op.call { callee := Go.Callee.value (Go.Operand.func 14), args := #[Go.Operand.tmp 72, Go.Operand.const (Go.Value.string { data := #[] })], argTypes := #[33, 9] }, type := 22, pos := "law.go:65", after := #[{ on := 6, ground := Go.Ground.data }, { on := 5, ground := Go.Ground.chain }, { on := 3, ground := Go.Ground.guard }], guard := some (3, false) }) rfl (fun K hK => ?_) AllReadyH.nil)
            (go_simp; (first | have H := HRE.out _ _ (by repeat (first | exact List.suffix_refl _ | refine List.IsSuffix.trans ?_ (List.suffix_cons _ _) | refine List.IsSuffix.trans ?_ (List.suffix_append _ _))) hN | have H := HRE.out _ _ (by repeat (first | exact List.suffix_refl _ | refine List.IsSuffix.trans ?_ (List.suffix_cons _ _) | refine List.IsSuffix.trans ?_ (List.suffix_append _ _))) hE.drew); refine H.mono ?_; clear H; rintro e w4 ⟨v, rfl, a5, c5, m5, rfl, hR⟩)
            refine hK.out _ _ (by first | exact ⟨(atVm hR.tail.drop (by repeat (first | exact List.Mem.head _ | refine List.Mem.tail _ ?_)) (by simp [go_sem]) rfl), (atWm hR.tail.drop (by repeat (first | exact List.Mem.head _ | refine List.Mem.tail _ ?_)) Tryd.isAgg28 Tryd.sizeOf28 rfl), (atWm hR.tail.drop (by repeat (first | exact List.Mem.head _ | refine List.Mem.tail _ ?_)) Tryd.isAgg33 Tryd.sizeOf33 rfl)⟩ | exact ⟨(atVm hR.tail.drop.tail.drop (by repeat (first | exact List.Mem.head _ | refine List.Mem.tail _ ?_)) (by simp [go_sem]) rfl), (atWm hR.tail.drop.tail.drop (by repeat (first | exact List.Mem.head _ | refine List.Mem.tail _ ?_)) Tryd.isAgg28 Tryd.sizeOf28 rfl), (atWm hR.tail.drop.tail.drop (by repeat (first | exact List.Mem.head _ | refine List.Mem.tail _ ?_)) Tryd.isAgg33 Tryd.sizeOf33 rfl)⟩) (fun hS => ?_)
            clear hK K
            try simp only [Act.put, sb, s0, sz]
            refine wpAnyH_ready (rs := [8]) (by kernel_rfl) (by simp) ?_
            refine (AllReadyH.cons (o := { dst := some 74, op := Go.Op.call { callee := Go.Callee.value (Go.Operand.func 12), args := #[Go.Operand.tmp 71, Go.Operand.tmp 73], argTypes := #[22, 22] }, type := 4, pos := "law.go:65", after := #[{ on := 5, ground := Go.Ground.data }, { on := 7, ground := Go.Ground.data }, { on := 7, ground := Go.Ground.chain }, { on := 3, ground := Go.Ground.guard }], guard := some (3, false) }) rfl (fun K hK => ?_) AllReadyH.nil)
            (go_simp; (first | have H := HRo1.out _ _ _ _ _ _ _ _ hR | have H := HRo2.out _ _ _ _ _ _ _ _ hN); refine H.mono ?_; clear H; rintro e w5 ⟨v, rfl, rfl, hO⟩)
            refine hK.out _ _ ⟨(atVm hO.tail.drop.tail.drop (by repeat (first | exact List.Mem.head _ | refine List.Mem.tail _ ?_)) (by simp [go_sem]) rfl), (atWm hO.tail.drop.tail.drop (by repeat (first | exact List.Mem.head _ | refine List.Mem.tail _ ?_)) Tryd.isAgg28 Tryd.sizeOf28 rfl), (atWm hO.tail.drop.tail.drop (by repeat (first | exact List.Mem.head _ | refine List.Mem.tail _ ?_)) Tryd.isAgg33 Tryd.sizeOf33 rfl)⟩ (fun hS => ?_)
            clear hK K
            try simp only [Act.put, sb, s0, sz]
            refine takeW 9 ⟨some 75, .unOp Go.UnOp.not 4 (.tmp 74), 4, "law.go:65", #[⟨8, .data⟩, ⟨3, .guard⟩], some (3, false)⟩ ?_ (.inl ⟨by rfl, ?_⟩) hS ?_
            rotate_left
            · (intro w hSw; (try dsimp only at hSw); go_simp; (try with_reducible rfl))
            try simp only [Act.put, sb, s0, sz]
            refine takeW 10 ⟨some 76, .pick (.tmp 69) (.const (.bool true)) (.tmp 75), 4, "law.go:65", #[⟨3, .data⟩, ⟨9, .data⟩], none⟩ ?_ (.inl ⟨by rfl, ?_⟩) hS ?_
            rotate_left
            · (intro w hSw; (try dsimp only at hSw); go_simp; (try with_reducible rfl))
            try simp only [Act.put, sb, s0, sz]
            refine wpAnyH_done (by kernel_rfl) ?_ _
            all_goals
              replace hE := hO.tail.drop.tail.drop
              clear hO hS hN hR
              clear HEn HRE HRo1 HRo2
              have Tok := SL.hid True.intro
              cases hez : (er == 0) with
              | false =>
                have hne : (er != 0) = true := by rw [bne, hez]; rfl
                clear hP hez
                generalize p.dir = pd at *
                generalize p.data = pb at *
                go_wp2_with (first
                  | go_skip
                  | (go_at_call 15; refine (HAt.out _ _ (by repeat (first | exact List.suffix_refl _ | refine List.IsSuffix.trans ?_ (List.suffix_cons _ _) | refine List.IsSuffix.trans ?_ (List.suffix_append _ _))) hE).mono ?_; clear hE; rintro e w6 ⟨v, rfl, a6, c6, rfl, hE, hKp⟩)
                  | (go_at_call 16; refine (HRA.out _ _ _ _ (by repeat (first | exact List.suffix_refl _ | refine List.IsSuffix.trans ?_ (List.suffix_cons _ _) | refine List.IsSuffix.trans ?_ (List.suffix_append _ _))) hE).mono ?_; clear hE; rintro e w7 ⟨v, rfl, m7, rfl, hE⟩)
                  | (go_at_call 9; refine (HWk.out _ _ hE).mono ?_; clear hE; rintro e w8 ⟨v, rfl, rfl, hE⟩)
                  | ((with_reducible (show Go.wpList _ _ _ (Go.Oper.mk _ (.alloc 28) _ _ _ _ :: _) _ _)); ((with_reducible (show Go.wpList _ _ _ (Go.Oper.mk _ (.alloc _) _ _ _ _ :: _) _ _)); refine wpl_alloc hE rfl rfl (by simp [go_sem]; rfl) ?_; clear hE; intro b10 w hE; simp only [Act.eval, Act.put, List.setIfInBounds_toArray, List.set_cons_zero, List.set_cons_succ, getD_lit, List.getD_cons_succ, List.getD_cons_zero, Value.cells] at hE))
                  | ((with_reducible (show Go.wpList _ _ _ (Go.Oper.mk _ (.alloc 41) _ _ _ _ :: _) _ _)); ((with_reducible (show Go.wpList _ _ _ (Go.Oper.mk _ (.alloc _) _ _ _ _ :: _) _ _)); refine wpl_alloc hE rfl rfl (by simp [go_sem]; rfl) ?_; clear hE; intro b12 w hE; simp only [Act.eval, Act.put, List.setIfInBounds_toArray, List.set_cons_zero, List.set_cons_succ, getD_lit, List.getD_cons_succ, List.getD_cons_zero, Value.cells] at hE))
                  | ((with_reducible (show Go.wpList _ _ _ (Go.Oper.mk _ (.store 28 _ _) _ _ _ _ :: _) _ _)); (first | (refine wpl_storeW hE 0 rfl rfl rfl (xs := [.bool pd, .string ⟨pb.toArray⟩, .slice a6 p.kids.length c6]) rfl rfl Tryd.sizeOf28 rfl (by simp [Value.oneCell']) rfl ?_) | (refine wpl_storeW hE 1 rfl rfl rfl (xs := [.bool pd, .string ⟨pb.toArray⟩, .slice a6 p.kids.length c6]) rfl rfl Tryd.sizeOf28 rfl (by simp [Value.oneCell']) rfl ?_) | (refine wpl_storeW hE 2 rfl rfl rfl (xs := [.bool pd, .string ⟨pb.toArray⟩, .slice a6 p.kids.length c6]) rfl rfl Tryd.sizeOf28 rfl (by simp [Value.oneCell']) rfl ?_) | (refine wpl_storeW hE 3 rfl rfl rfl (xs := [.bool pd, .string ⟨pb.toArray⟩, .slice a6 p.kids.length c6]) rfl rfl Tryd.sizeOf28 rfl (by simp [Value.oneCell']) rfl ?_) | (refine wpl_storeW hE 4 rfl rfl rfl (xs := [.bool pd, .string ⟨pb.toArray⟩, .slice a6 p.kids.length c6]) rfl rfl Tryd.sizeOf28 rfl (by simp [Value.oneCell']) rfl ?_) | (refine wpl_storeW hE 5 rfl rfl rfl (xs := [.bool pd, .string ⟨pb.toArray⟩, .slice a6 p.kids.length c6]) rfl rfl Tryd.sizeOf28 rfl (by simp [Value.oneCell']) rfl ?_) | (refine wpl_storeW hE 6 rfl rfl rfl (xs := [.bool pd, .string ⟨pb.toArray⟩, .slice a6 p.kids.length c6]) rfl rfl Tryd.sizeOf28 rfl (by simp [Value.oneCell']) rfl ?_) | (refine wpl_storeW hE 7 rfl rfl rfl (xs := [.bool pd, .string ⟨pb.toArray⟩, .slice a6 p.kids.length c6]) rfl rfl Tryd.sizeOf28 rfl (by simp [Value.oneCell']) rfl ?_)); clear hE; intro w hE; simp only [List.set_cons_zero, List.set_cons_succ] at hE)
                  | ((with_reducible (show Go.wpList _ _ _ (Go.Oper.mk _ (.store 41 _ _) _ _ _ _ :: _) _ _)); (first | (refine wpl_storeW hE 0 rfl rfl rfl (xs := [.string ⟨P.toArray⟩, .bool pd, .string ⟨pb.toArray⟩]) rfl rfl Tryd.sizeOf41 rfl (by simp [Value.oneCell']) rfl ?_) | (refine wpl_storeW hE 1 rfl rfl rfl (xs := [.string ⟨P.toArray⟩, .bool pd, .string ⟨pb.toArray⟩]) rfl rfl Tryd.sizeOf41 rfl (by simp [Value.oneCell']) rfl ?_) | (refine wpl_storeW hE 2 rfl rfl rfl (xs := [.string ⟨P.toArray⟩, .bool pd, .string ⟨pb.toArray⟩]) rfl rfl Tryd.sizeOf41 rfl (by simp [Value.oneCell']) rfl ?_) | (refine wpl_storeW hE 3 rfl rfl rfl (xs := [.string ⟨P.toArray⟩, .bool pd, .string ⟨pb.toArray⟩]) rfl rfl Tryd.sizeOf41 rfl (by simp [Value.oneCell']) rfl ?_) | (refine wpl_storeW hE 4 rfl rfl rfl (xs := [.string ⟨P.toArray⟩, .bool pd, .string ⟨pb.toArray⟩]) rfl rfl Tryd.sizeOf41 rfl (by simp [Value.oneCell']) rfl ?_) | (refine wpl_storeW hE 5 rfl rfl rfl (xs := [.string ⟨P.toArray⟩, .bool pd, .string ⟨pb.toArray⟩]) rfl rfl Tryd.sizeOf41 rfl (by simp [Value.oneCell']) rfl ?_) | (refine wpl_storeW hE 6 rfl rfl rfl (xs := [.string ⟨P.toArray⟩, .bool pd, .string ⟨pb.toArray⟩]) rfl rfl Tryd.sizeOf41 rfl (by simp [Value.oneCell']) rfl ?_) | (refine wpl_storeW hE 7 rfl rfl rfl (xs := [.string ⟨P.toArray⟩, .bool pd, .string ⟨pb.toArray⟩]) rfl rfl Tryd.sizeOf41 rfl (by simp [Value.oneCell']) rfl ?_)); clear hE; intro w hE; simp only [List.set_cons_zero, List.set_cons_succ] at hE)
                  | ((with_reducible (show Go.wpList _ _ _ (Go.Oper.mk _ (.load 28 _) _ _ _ _ :: _) _ _)); (first | (refine wpl_loadW hE 0 rfl rfl rfl rfl Tryd.isAgg28 Tryd.sizeOf28 rfl ?_) | (refine wpl_loadW hE 1 rfl rfl rfl rfl Tryd.isAgg28 Tryd.sizeOf28 rfl ?_) | (refine wpl_loadW hE 2 rfl rfl rfl rfl Tryd.isAgg28 Tryd.sizeOf28 rfl ?_) | (refine wpl_loadW hE 3 rfl rfl rfl rfl Tryd.isAgg28 Tryd.sizeOf28 rfl ?_) | (refine wpl_loadW hE 4 rfl rfl rfl rfl Tryd.isAgg28 Tryd.sizeOf28 rfl ?_) | (refine wpl_loadW hE 5 rfl rfl rfl rfl Tryd.isAgg28 Tryd.sizeOf28 rfl ?_) | (refine wpl_loadW hE 6 rfl rfl rfl rfl Tryd.isAgg28 Tryd.sizeOf28 rfl ?_) | (refine wpl_loadW hE 7 rfl rfl rfl rfl Tryd.isAgg28 Tryd.sizeOf28 rfl ?_)))
                  | ((with_reducible (show Go.wpList _ _ _ (Go.Oper.mk _ (.load 33 _) _ _ _ _ :: _) _ _)); (first | (refine wpl_loadW hE 0 rfl rfl rfl rfl Tryd.isAgg33 Tryd.sizeOf33 rfl ?_) | (refine wpl_loadW hE 1 rfl rfl rfl rfl Tryd.isAgg33 Tryd.sizeOf33 rfl ?_) | (refine wpl_loadW hE 2 rfl rfl rfl rfl Tryd.isAgg33 Tryd.sizeOf33 rfl ?_) | (refine wpl_loadW hE 3 rfl rfl rfl rfl Tryd.isAgg33 Tryd.sizeOf33 rfl ?_) | (refine wpl_loadW hE 4 rfl rfl rfl rfl Tryd.isAgg33 Tryd.sizeOf33 rfl ?_) | (refine wpl_loadW hE 5 rfl rfl rfl rfl Tryd.isAgg33 Tryd.sizeOf33 rfl ?_) | (refine wpl_loadW hE 6 rfl rfl rfl rfl Tryd.isAgg33 Tryd.sizeOf33 rfl ?_) | (refine wpl_loadW hE 7 rfl rfl rfl rfl Tryd.isAgg33 Tryd.sizeOf33 rfl ?_)))
                  | ((with_reducible (show Go.wpList _ _ _ (Go.Oper.mk _ (.load _ _) _ _ _ _ :: _) _ _)); (first | (refine wpl_load1 hE 0 rfl rfl rfl rfl (by simp [go_sem]) rfl ?_) | (refine wpl_load1 hE 1 rfl rfl rfl rfl (by simp [go_sem]) rfl ?_) | (refine wpl_load1 hE 2 rfl rfl rfl rfl (by simp [go_sem]) rfl ?_) | (refine wpl_load1 hE 3 rfl rfl rfl rfl (by simp [go_sem]) rfl ?_) | (refine wpl_load1 hE 4 rfl rfl rfl rfl (by simp [go_sem]) rfl ?_) | (refine wpl_load1 hE 5 rfl rfl rfl rfl (by simp [go_sem]) rfl ?_) | (refine wpl_load1 hE 6 rfl rfl rfl rfl (by simp [go_sem]) rfl ?_) | (refine wpl_load1 hE 7 rfl rfl rfl rfl (by simp [go_sem]) rfl ?_))))
                go_ret
                exact ⟨_, rfl, rfl, hE.tail.tail.tail.drop.tail.drop.drop⟩
              | true =>
                obtain rfl : er = 0 := by simpa using hez
                obtain rfl : joinP q = P := by simpa using hP
                clear hez hP
                have hg : Tr.get? q t = some p := by
                  obtain ⟨p', h⟩ := Option.isSome_iff_exists.1 (Hp.out.1.1 rfl)
                  rw [h, ← Hp.out.2 p' h]
                obtain ⟨hqa, hq6⟩ := get_names Hhw.out hg
                obtain ⟨dp, hwp⟩ := wf_get Hhw.out hg
                have hri := Tr.wf_rising hwp
                have hsz := Tr.wf_size hwp
                have hkf := wf_file hwp
                obtain ⟨pre, hpre, hfr⟩ := pre_of hqa
                obtain ⟨S, hS⟩ : ∃ S, sortT q p = S := ⟨_, rfl⟩
                have hSl : S.length = p.kids.length := by rw [← hS, sortT, List.length_map]
                have hSk : ∀ (k : Nat) (h : k < p.kids.length) (h2 : k < S.length), S[k] = ⟨pre ++ (p.kids[k]).1, (p.kids[k]).2.dir, (p.kids[k]).2.data⟩ := by
                  intro k h h2
                  subst hS
                  simp only [sortT, List.getElem_map, entOf, hpre]
                have HSo := SL.hid (fun (A B : HProp) (L : List HProp) (w : World) (hs : (pt b6 (.cells #[.bool true, .string ⟨t.data.toArray⟩, .slice a t.kids.length c'] 28) :: (m2 ++ (m ++ l))) <:+ L) (hE : Ent (A :: B :: L) w) =>
                  show Calls Tryd.prog 18 #[.agg #[.slice a2 es.length c2], .string ⟨(joinP q).toArray⟩] w (Ret fun v w' => ∃ a9 c9 m9, v = .slice a9 S.length c9 ∧ Ent (A :: B :: rowEn a9 c9 S :: (m9 ++ L)) w') from by
                    refine (Sorted_any (l := A :: B :: L) (L := es) (S := S) (by omega) Hb2.out (joinP q) (by rw [← hS]; exact sortT_perm HG.out.1 Hhw.out hqa hq6 hg) (by rw [← hS]; exact sortT_rising hri) (HKn.out.suf (hs.trans ((List.suffix_cons _ _).trans (List.suffix_cons _ _)))) hE).mono ?_
                    rintro e w' ⟨v, rfl, a9, c9, m9, rfl, hE⟩
                    exact ⟨_, rfl, a9, c9, m9, rfl, Ent.swap (a := rowEn a9 c9 S :: m9) (b := [A, B]) hE⟩)
                have HLi := SL.hid (fun (a : Option Addr) (c : Nat) (L : List HProp) (w : World) (hK : KidsAt L (.slice a p.kids.length c) p.kids) (hE : Ent L w) =>
                  show Calls Tryd.prog 17 #[.agg #[.bool p.dir, .string ⟨p.data.toArray⟩, .slice a p.kids.length c]] w (Ret fun v w' => ∃ ao c, v = .slice ao p.kids.length c ∧ Ent (rowI ao c p.kids :: L) w') from List_any (t := p) (by omega) hK hE)
                have HSk := SL.hid hSk
                have hs6 := hsz.2
                clear hS hri hsz hwp hpre hSk hg Hp hqa
                generalize p.dir = pd at *
                generalize p.data = pb at *
                generalize p.kids = ks at *
                cases pd with
                | false =>
                  obtain rfl : ks = [] := hkf rfl
                  clear HSk HSo hSl hkf hs6
                  simp only [List.length_nil] at *
                  rcases hfr with ⟨h0, h0b, h0c, hl0⟩ | ⟨h0, h0b, h0c, hl0⟩
                  all_goals
                    go_wp2_with (first
                  | go_skip
                      | (go_at_call 15; refine (HAt.out _ _ (by repeat (first | exact List.suffix_refl _ | refine List.IsSuffix.trans ?_ (List.suffix_cons _ _) | refine List.IsSuffix.trans ?_ (List.suffix_append _ _))) hE).mono ?_; clear hE; rintro e w6 ⟨v, rfl, a6, c6, rfl, hE, hKp⟩)
                      | (go_at_call 16; refine (HRA.out _ _ _ _ (by repeat (first | exact List.suffix_refl _ | refine List.IsSuffix.trans ?_ (List.suffix_cons _ _) | refine List.IsSuffix.trans ?_ (List.suffix_append _ _))) hE).mono ?_; clear hE; rintro e w7 ⟨v, rfl, m7, rfl, hE⟩)
                      | (go_at_call 17; refine (HLi.out _ _ _ _ (hKp.suf (by repeat (first | exact List.suffix_refl _ | refine List.IsSuffix.trans ?_ (List.suffix_cons _ _) | refine List.IsSuffix.trans ?_ (List.suffix_append _ _)))) hE).mono ?_; clear hE; rintro e w8 ⟨v, rfl, a8, c8, rfl, hE⟩)
                      | (go_at_call 18; refine (HSo.out _ _ _ _ (by repeat (first | exact List.suffix_refl _ | refine List.IsSuffix.trans ?_ (List.suffix_cons _ _) | refine List.IsSuffix.trans ?_ (List.suffix_append _ _))) hE).mono ?_; clear hE; rintro e w9 ⟨v, rfl, a9, c9, m9, rfl, hE⟩)
                      | ((with_reducible (show Go.wpList _ _ _ (Go.Oper.mk _ (.alloc 28) _ _ _ _ :: _) _ _)); ((with_reducible (show Go.wpList _ _ _ (Go.Oper.mk _ (.alloc _) _ _ _ _ :: _) _ _)); refine wpl_alloc hE rfl rfl (by simp [go_sem]; rfl) ?_; clear hE; intro b10 w hE; simp only [Act.eval, Act.put, List.setIfInBounds_toArray, List.set_cons_zero, List.set_cons_succ, getD_lit, List.getD_cons_succ, List.getD_cons_zero, Value.cells] at hE))
                      | ((with_reducible (show Go.wpList _ _ _ (Go.Oper.mk _ (.alloc 41) _ _ _ _ :: _) _ _)); ((with_reducible (show Go.wpList _ _ _ (Go.Oper.mk _ (.alloc _) _ _ _ _ :: _) _ _)); refine wpl_alloc hE rfl rfl (by simp [go_sem]; rfl) ?_; clear hE; intro b12 w hE; simp only [Act.eval, Act.put, List.setIfInBounds_toArray, List.set_cons_zero, List.set_cons_succ, getD_lit, List.getD_cons_succ, List.getD_cons_zero, Value.cells] at hE))
                      | ((with_reducible (show Go.wpList _ _ _ (Go.Oper.mk _ (.store 28 _ _) _ _ _ _ :: _) _ _)); (first | (refine wpl_storeW hE 0 rfl rfl rfl (xs := [.bool false, .string ⟨pb.toArray⟩, .slice a6 0 c6]) rfl rfl Tryd.sizeOf28 rfl (by simp [Value.oneCell']) rfl ?_) | (refine wpl_storeW hE 1 rfl rfl rfl (xs := [.bool false, .string ⟨pb.toArray⟩, .slice a6 0 c6]) rfl rfl Tryd.sizeOf28 rfl (by simp [Value.oneCell']) rfl ?_) | (refine wpl_storeW hE 2 rfl rfl rfl (xs := [.bool false, .string ⟨pb.toArray⟩, .slice a6 0 c6]) rfl rfl Tryd.sizeOf28 rfl (by simp [Value.oneCell']) rfl ?_) | (refine wpl_storeW hE 3 rfl rfl rfl (xs := [.bool false, .string ⟨pb.toArray⟩, .slice a6 0 c6]) rfl rfl Tryd.sizeOf28 rfl (by simp [Value.oneCell']) rfl ?_) | (refine wpl_storeW hE 4 rfl rfl rfl (xs := [.bool false, .string ⟨pb.toArray⟩, .slice a6 0 c6]) rfl rfl Tryd.sizeOf28 rfl (by simp [Value.oneCell']) rfl ?_) | (refine wpl_storeW hE 5 rfl rfl rfl (xs := [.bool false, .string ⟨pb.toArray⟩, .slice a6 0 c6]) rfl rfl Tryd.sizeOf28 rfl (by simp [Value.oneCell']) rfl ?_) | (refine wpl_storeW hE 6 rfl rfl rfl (xs := [.bool false, .string ⟨pb.toArray⟩, .slice a6 0 c6]) rfl rfl Tryd.sizeOf28 rfl (by simp [Value.oneCell']) rfl ?_) | (refine wpl_storeW hE 7 rfl rfl rfl (xs := [.bool false, .string ⟨pb.toArray⟩, .slice a6 0 c6]) rfl rfl Tryd.sizeOf28 rfl (by simp [Value.oneCell']) rfl ?_)); clear hE; intro w hE; simp only [List.set_cons_zero, List.set_cons_succ] at hE)
                      | ((with_reducible (show Go.wpList _ _ _ (Go.Oper.mk _ (.store 41 _ _) _ _ _ _ :: _) _ _)); (first | (refine wpl_storeW hE 0 rfl rfl rfl (xs := [.string ⟨(joinP q).toArray⟩, .bool false, .string ⟨pb.toArray⟩]) rfl rfl Tryd.sizeOf41 rfl (by simp [Value.oneCell']) rfl ?_) | (refine wpl_storeW hE 1 rfl rfl rfl (xs := [.string ⟨(joinP q).toArray⟩, .bool false, .string ⟨pb.toArray⟩]) rfl rfl Tryd.sizeOf41 rfl (by simp [Value.oneCell']) rfl ?_) | (refine wpl_storeW hE 2 rfl rfl rfl (xs := [.string ⟨(joinP q).toArray⟩, .bool false, .string ⟨pb.toArray⟩]) rfl rfl Tryd.sizeOf41 rfl (by simp [Value.oneCell']) rfl ?_) | (refine wpl_storeW hE 3 rfl rfl rfl (xs := [.string ⟨(joinP q).toArray⟩, .bool false, .string ⟨pb.toArray⟩]) rfl rfl Tryd.sizeOf41 rfl (by simp [Value.oneCell']) rfl ?_) | (refine wpl_storeW hE 4 rfl rfl rfl (xs := [.string ⟨(joinP q).toArray⟩, .bool false, .string ⟨pb.toArray⟩]) rfl rfl Tryd.sizeOf41 rfl (by simp [Value.oneCell']) rfl ?_) | (refine wpl_storeW hE 5 rfl rfl rfl (xs := [.string ⟨(joinP q).toArray⟩, .bool false, .string ⟨pb.toArray⟩]) rfl rfl Tryd.sizeOf41 rfl (by simp [Value.oneCell']) rfl ?_) | (refine wpl_storeW hE 6 rfl rfl rfl (xs := [.string ⟨(joinP q).toArray⟩, .bool false, .string ⟨pb.toArray⟩]) rfl rfl Tryd.sizeOf41 rfl (by simp [Value.oneCell']) rfl ?_) | (refine wpl_storeW hE 7 rfl rfl rfl (xs := [.string ⟨(joinP q).toArray⟩, .bool false, .string ⟨pb.toArray⟩]) rfl rfl Tryd.sizeOf41 rfl (by simp [Value.oneCell']) rfl ?_)); clear hE; intro w hE; simp only [List.set_cons_zero, List.set_cons_succ] at hE)
                      | ((with_reducible (show Go.wpList _ _ _ (Go.Oper.mk _ (.load 28 _) _ _ _ _ :: _) _ _)); (first | (refine wpl_loadW hE 0 rfl rfl rfl rfl Tryd.isAgg28 Tryd.sizeOf28 rfl ?_) | (refine wpl_loadW hE 1 rfl rfl rfl rfl Tryd.isAgg28 Tryd.sizeOf28 rfl ?_) | (refine wpl_loadW hE 2 rfl rfl rfl rfl Tryd.isAgg28 Tryd.sizeOf28 rfl ?_) | (refine wpl_loadW hE 3 rfl rfl rfl rfl Tryd.isAgg28 Tryd.sizeOf28 rfl ?_) | (refine wpl_loadW hE 4 rfl rfl rfl rfl Tryd.isAgg28 Tryd.sizeOf28 rfl ?_) | (refine wpl_loadW hE 5 rfl rfl rfl rfl Tryd.isAgg28 Tryd.sizeOf28 rfl ?_) | (refine wpl_loadW hE 6 rfl rfl rfl rfl Tryd.isAgg28 Tryd.sizeOf28 rfl ?_) | (refine wpl_loadW hE 7 rfl rfl rfl rfl Tryd.isAgg28 Tryd.sizeOf28 rfl ?_)))
                      | ((with_reducible (show Go.wpList _ _ _ (Go.Oper.mk _ (.load 33 _) _ _ _ _ :: _) _ _)); (first | (refine wpl_loadW hE 0 rfl rfl rfl rfl Tryd.isAgg33 Tryd.sizeOf33 rfl ?_) | (refine wpl_loadW hE 1 rfl rfl rfl rfl Tryd.isAgg33 Tryd.sizeOf33 rfl ?_) | (refine wpl_loadW hE 2 rfl rfl rfl rfl Tryd.isAgg33 Tryd.sizeOf33 rfl ?_) | (refine wpl_loadW hE 3 rfl rfl rfl rfl Tryd.isAgg33 Tryd.sizeOf33 rfl ?_) | (refine wpl_loadW hE 4 rfl rfl rfl rfl Tryd.isAgg33 Tryd.sizeOf33 rfl ?_) | (refine wpl_loadW hE 5 rfl rfl rfl rfl Tryd.isAgg33 Tryd.sizeOf33 rfl ?_) | (refine wpl_loadW hE 6 rfl rfl rfl rfl Tryd.isAgg33 Tryd.sizeOf33 rfl ?_) | (refine wpl_loadW hE 7 rfl rfl rfl rfl Tryd.isAgg33 Tryd.sizeOf33 rfl ?_)))
                      | ((with_reducible (show Go.wpList _ _ _ (Go.Oper.mk _ (.load _ _) _ _ _ _ :: _) _ _)); (first | (refine wpl_load1 hE 0 rfl rfl rfl rfl (by simp [go_sem]) rfl ?_) | (refine wpl_load1 hE 1 rfl rfl rfl rfl (by simp [go_sem]) rfl ?_) | (refine wpl_load1 hE 2 rfl rfl rfl rfl (by simp [go_sem]) rfl ?_) | (refine wpl_load1 hE 3 rfl rfl rfl rfl (by simp [go_sem]) rfl ?_) | (refine wpl_load1 hE 4 rfl rfl rfl rfl (by simp [go_sem]) rfl ?_) | (refine wpl_load1 hE 5 rfl rfl rfl rfl (by simp [go_sem]) rfl ?_) | (refine wpl_load1 hE 6 rfl rfl rfl rfl (by simp [go_sem]) rfl ?_) | (refine wpl_load1 hE 7 rfl rfl rfl rfl (by simp [go_sem]) rfl ?_))))
                    go_loopw [17] (fun i wr => CntRel 0 l i wr) (fun i _ => 0)
                    case atStart => exact ⟨0, Nat.le_refl _, rfl, hE.tail.tail.tail.tail.drop.tail.drop.drop⟩
                    case round =>
                      clear hE
                      obtain ⟨k, hk0, rfl, hE⟩ := hrel
                      obtain rfl : k = 0 := by omega
                      go_wp2_with (first
                        | go_skip
                        | (go_at_call 9; refine (HWk.out _ _ hE).mono ?_; clear hE; rintro e w8 ⟨v, rfl, rfl, hE⟩))
                      go_ret
                      exact ⟨_, rfl, rfl, hE⟩
                | true =>
                  clear hkf
                  have hPl := joinP_len q (fun x h => by have := Hx2.out.1 x h; omega)
                  rcases hfr with ⟨h0, h0b, h0c, hl0⟩ | ⟨h0, h0b, h0c, hl0⟩
                  have hw1 : ((pre.length : Nat) : Int) = ((joinP q).length : Int) := by omega
                  clear hl0
                  rotate_left
                  have hw2 := SL.hid (show ((joinP q).length : Int) + 1 = ((pre.length : Nat) : Int) by omega)
                  clear hl0
                  rotate_left
                  all_goals
                    have hneq : ((ks.length : Int) != (S.length : Int)) = false := by rw [hSl]; simp
                    go_wp2_with (first
                  | go_skip
                      | (go_at_call 15; refine (HAt.out _ _ (by repeat (first | exact List.suffix_refl _ | refine List.IsSuffix.trans ?_ (List.suffix_cons _ _) | refine List.IsSuffix.trans ?_ (List.suffix_append _ _))) hE).mono ?_; clear hE; rintro e w6 ⟨v, rfl, a6, c6, rfl, hE, hKp⟩)
                      | (go_at_call 16; refine (HRA.out _ _ _ _ (by repeat (first | exact List.suffix_refl _ | refine List.IsSuffix.trans ?_ (List.suffix_cons _ _) | refine List.IsSuffix.trans ?_ (List.suffix_append _ _))) hE).mono ?_; clear hE; rintro e w7 ⟨v, rfl, m7, rfl, hE⟩)
                      | (go_at_call 17; refine (HLi.out _ _ _ _ (hKp.suf (by repeat (first | exact List.suffix_refl _ | refine List.IsSuffix.trans ?_ (List.suffix_cons _ _) | refine List.IsSuffix.trans ?_ (List.suffix_append _ _)))) hE).mono ?_; clear hE; rintro e w8 ⟨v, rfl, a8, c8, rfl, hE⟩)
                      | (go_at_call 18; refine (HSo.out _ _ _ _ (by repeat (first | exact List.suffix_refl _ | refine List.IsSuffix.trans ?_ (List.suffix_cons _ _) | refine List.IsSuffix.trans ?_ (List.suffix_append _ _))) hE).mono ?_; clear hE; rintro e w9 ⟨v, rfl, a9, c9, m9, rfl, hE⟩)
                      | ((with_reducible (show Go.wpList _ _ _ (Go.Oper.mk _ (.alloc 28) _ _ _ _ :: _) _ _)); ((with_reducible (show Go.wpList _ _ _ (Go.Oper.mk _ (.alloc _) _ _ _ _ :: _) _ _)); refine wpl_alloc hE rfl rfl (by simp [go_sem]; rfl) ?_; clear hE; intro b10 w hE; simp only [Act.eval, Act.put, List.setIfInBounds_toArray, List.set_cons_zero, List.set_cons_succ, getD_lit, List.getD_cons_succ, List.getD_cons_zero, Value.cells] at hE))
                      | ((with_reducible (show Go.wpList _ _ _ (Go.Oper.mk _ (.alloc 41) _ _ _ _ :: _) _ _)); ((with_reducible (show Go.wpList _ _ _ (Go.Oper.mk _ (.alloc _) _ _ _ _ :: _) _ _)); refine wpl_alloc hE rfl rfl (by simp [go_sem]; rfl) ?_; clear hE; intro b12 w hE; simp only [Act.eval, Act.put, List.setIfInBounds_toArray, List.set_cons_zero, List.set_cons_succ, getD_lit, List.getD_cons_succ, List.getD_cons_zero, Value.cells] at hE))
                      | ((with_reducible (show Go.wpList _ _ _ (Go.Oper.mk _ (.store 28 _ _) _ _ _ _ :: _) _ _)); (first | (refine wpl_storeW hE 0 rfl rfl rfl (xs := [.bool true, .string ⟨pb.toArray⟩, .slice a6 ks.length c6]) rfl rfl Tryd.sizeOf28 rfl (by simp [Value.oneCell']) rfl ?_) | (refine wpl_storeW hE 1 rfl rfl rfl (xs := [.bool true, .string ⟨pb.toArray⟩, .slice a6 ks.length c6]) rfl rfl Tryd.sizeOf28 rfl (by simp [Value.oneCell']) rfl ?_) | (refine wpl_storeW hE 2 rfl rfl rfl (xs := [.bool true, .string ⟨pb.toArray⟩, .slice a6 ks.length c6]) rfl rfl Tryd.sizeOf28 rfl (by simp [Value.oneCell']) rfl ?_) | (refine wpl_storeW hE 3 rfl rfl rfl (xs := [.bool true, .string ⟨pb.toArray⟩, .slice a6 ks.length c6]) rfl rfl Tryd.sizeOf28 rfl (by simp [Value.oneCell']) rfl ?_) | (refine wpl_storeW hE 4 rfl rfl rfl (xs := [.bool true, .string ⟨pb.toArray⟩, .slice a6 ks.length c6]) rfl rfl Tryd.sizeOf28 rfl (by simp [Value.oneCell']) rfl ?_) | (refine wpl_storeW hE 5 rfl rfl rfl (xs := [.bool true, .string ⟨pb.toArray⟩, .slice a6 ks.length c6]) rfl rfl Tryd.sizeOf28 rfl (by simp [Value.oneCell']) rfl ?_) | (refine wpl_storeW hE 6 rfl rfl rfl (xs := [.bool true, .string ⟨pb.toArray⟩, .slice a6 ks.length c6]) rfl rfl Tryd.sizeOf28 rfl (by simp [Value.oneCell']) rfl ?_) | (refine wpl_storeW hE 7 rfl rfl rfl (xs := [.bool true, .string ⟨pb.toArray⟩, .slice a6 ks.length c6]) rfl rfl Tryd.sizeOf28 rfl (by simp [Value.oneCell']) rfl ?_)); clear hE; intro w hE; simp only [List.set_cons_zero, List.set_cons_succ] at hE)
                      | ((with_reducible (show Go.wpList _ _ _ (Go.Oper.mk _ (.store 41 _ _) _ _ _ _ :: _) _ _)); (first | (refine wpl_storeW hE 0 rfl rfl rfl (xs := [.string ⟨(joinP q).toArray⟩, .bool true, .string ⟨pb.toArray⟩]) rfl rfl Tryd.sizeOf41 rfl (by simp [Value.oneCell']) rfl ?_) | (refine wpl_storeW hE 1 rfl rfl rfl (xs := [.string ⟨(joinP q).toArray⟩, .bool true, .string ⟨pb.toArray⟩]) rfl rfl Tryd.sizeOf41 rfl (by simp [Value.oneCell']) rfl ?_) | (refine wpl_storeW hE 2 rfl rfl rfl (xs := [.string ⟨(joinP q).toArray⟩, .bool true, .string ⟨pb.toArray⟩]) rfl rfl Tryd.sizeOf41 rfl (by simp [Value.oneCell']) rfl ?_) | (refine wpl_storeW hE 3 rfl rfl rfl (xs := [.string ⟨(joinP q).toArray⟩, .bool true, .string ⟨pb.toArray⟩]) rfl rfl Tryd.sizeOf41 rfl (by simp [Value.oneCell']) rfl ?_) | (refine wpl_storeW hE 4 rfl rfl rfl (xs := [.string ⟨(joinP q).toArray⟩, .bool true, .string ⟨pb.toArray⟩]) rfl rfl Tryd.sizeOf41 rfl (by simp [Value.oneCell']) rfl ?_) | (refine wpl_storeW hE 5 rfl rfl rfl (xs := [.string ⟨(joinP q).toArray⟩, .bool true, .string ⟨pb.toArray⟩]) rfl rfl Tryd.sizeOf41 rfl (by simp [Value.oneCell']) rfl ?_) | (refine wpl_storeW hE 6 rfl rfl rfl (xs := [.string ⟨(joinP q).toArray⟩, .bool true, .string ⟨pb.toArray⟩]) rfl rfl Tryd.sizeOf41 rfl (by simp [Value.oneCell']) rfl ?_) | (refine wpl_storeW hE 7 rfl rfl rfl (xs := [.string ⟨(joinP q).toArray⟩, .bool true, .string ⟨pb.toArray⟩]) rfl rfl Tryd.sizeOf41 rfl (by simp [Value.oneCell']) rfl ?_)); clear hE; intro w hE; simp only [List.set_cons_zero, List.set_cons_succ] at hE)
                      | ((with_reducible (show Go.wpList _ _ _ (Go.Oper.mk _ (.load 28 _) _ _ _ _ :: _) _ _)); (first | (refine wpl_loadW hE 0 rfl rfl rfl rfl Tryd.isAgg28 Tryd.sizeOf28 rfl ?_) | (refine wpl_loadW hE 1 rfl rfl rfl rfl Tryd.isAgg28 Tryd.sizeOf28 rfl ?_) | (refine wpl_loadW hE 2 rfl rfl rfl rfl Tryd.isAgg28 Tryd.sizeOf28 rfl ?_) | (refine wpl_loadW hE 3 rfl rfl rfl rfl Tryd.isAgg28 Tryd.sizeOf28 rfl ?_) | (refine wpl_loadW hE 4 rfl rfl rfl rfl Tryd.isAgg28 Tryd.sizeOf28 rfl ?_) | (refine wpl_loadW hE 5 rfl rfl rfl rfl Tryd.isAgg28 Tryd.sizeOf28 rfl ?_) | (refine wpl_loadW hE 6 rfl rfl rfl rfl Tryd.isAgg28 Tryd.sizeOf28 rfl ?_) | (refine wpl_loadW hE 7 rfl rfl rfl rfl Tryd.isAgg28 Tryd.sizeOf28 rfl ?_)))
                      | ((with_reducible (show Go.wpList _ _ _ (Go.Oper.mk _ (.load 33 _) _ _ _ _ :: _) _ _)); (first | (refine wpl_loadW hE 0 rfl rfl rfl rfl Tryd.isAgg33 Tryd.sizeOf33 rfl ?_) | (refine wpl_loadW hE 1 rfl rfl rfl rfl Tryd.isAgg33 Tryd.sizeOf33 rfl ?_) | (refine wpl_loadW hE 2 rfl rfl rfl rfl Tryd.isAgg33 Tryd.sizeOf33 rfl ?_) | (refine wpl_loadW hE 3 rfl rfl rfl rfl Tryd.isAgg33 Tryd.sizeOf33 rfl ?_) | (refine wpl_loadW hE 4 rfl rfl rfl rfl Tryd.isAgg33 Tryd.sizeOf33 rfl ?_) | (refine wpl_loadW hE 5 rfl rfl rfl rfl Tryd.isAgg33 Tryd.sizeOf33 rfl ?_) | (refine wpl_loadW hE 6 rfl rfl rfl rfl Tryd.isAgg33 Tryd.sizeOf33 rfl ?_) | (refine wpl_loadW hE 7 rfl rfl rfl rfl Tryd.isAgg33 Tryd.sizeOf33 rfl ?_)))
                      | ((with_reducible (show Go.wpList _ _ _ (Go.Oper.mk _ (.load _ _) _ _ _ _ :: _) _ _)); (first | (refine wpl_load1 hE 0 rfl rfl rfl rfl (by simp [go_sem]) rfl ?_) | (refine wpl_load1 hE 1 rfl rfl rfl rfl (by simp [go_sem]) rfl ?_) | (refine wpl_load1 hE 2 rfl rfl rfl rfl (by simp [go_sem]) rfl ?_) | (refine wpl_load1 hE 3 rfl rfl rfl rfl (by simp [go_sem]) rfl ?_) | (refine wpl_load1 hE 4 rfl rfl rfl rfl (by simp [go_sem]) rfl ?_) | (refine wpl_load1 hE 5 rfl rfl rfl rfl (by simp [go_sem]) rfl ?_) | (refine wpl_load1 hE 6 rfl rfl rfl rfl (by simp [go_sem]) rfl ?_) | (refine wpl_load1 hE 7 rfl rfl rfl rfl (by simp [go_sem]) rfl ?_))))
                    obtain ⟨LL, hEL, hI, hSS, hl⟩ : ∃ LL, Ent LL w9 ∧ Knows LL (reads (.slice a8 ks.length c8) ks.length (ks.flatMap inC)) ∧ Knows LL (reads (.slice a9 S.length c9) S.length (S.flatMap enC)) ∧ ∀ w, Ent LL w → Ent l w :=
                      ⟨_, hE, fun w h => reads_row h 0 rfl, fun w h => reads_row h 2 rfl, fun w h => h.tail.tail.tail.drop.tail.tail.drop.tail.drop.drop⟩
                    clear hE
                    have hE := hEL
                    clear hEL HAt HRA HSo HLi HKn hKA HG Hb2 hKp hneq hPl
                    try rw [← hw1]
                    try rw [hw2.out]
                    try clear hw1
                    try clear hw2
                    clear h0 h0b h0c
                    go_loopw [17] (fun i wr => CntRel ks.length LL i wr) (fun i _ => ks.length - (intOf i).toNat)
                    case atStart => exact ⟨0, Nat.zero_le _, rfl, hE⟩
                    case round =>
                      clear hE
                      obtain ⟨k, hk0, rfl, hE⟩ := hrel
                      by_cases hlt : k < ks.length
                      · have hlS : k < S.length := by omega
                        obtain ⟨bi, oi, rfl, hz⟩ := load_inf (hI _ hE) hlt
                        clear hz
                        obtain ⟨bs, os, rfl, hz⟩ := en_at (hSS _ hE) hlS
                        clear hz
                        have f1 := SL.hid (fun (w : World) (h : Ent LL w) => load_inf2 (hI w h) hlt)
                        have f2 := SL.hid (fun (w : World) (h : Ent LL w) => load_en (hSS w h) hlS)
                        rw [HSk.out k hlt hlS] at f2
                        simp only at f2
                        have hcm := fun w => eqInf (ks[k]).1 (ks[k]).2.dir ((ks[k]).2.data.length : Int) w
                        have hex := cut_at pre (ks[k]).1
                        have hyl : pre.length ≤ (pre ++ (ks[k]).1).length := by simp
                        generalize pre ++ (ks[k]).1 = y at *
                        generalize (ks[k]).1 = n at *
                        generalize (ks[k]).2.dir = xd at *
                        generalize (ks[k]).2.data = xb at *
                        go_wp2
                        refine wp_region_held_drew (S := (fun w' => ((Instr.loadAt 47 (.pointer (some ⟨bi, oi + k * 3, none⟩))).run Tryd.prog w' = .ok (.agg #[.string ⟨n.toArray⟩, .bool xd, .int .i64 xb.length]) w') ∧ ((Instr.loadAt 9 (.pointer (some ⟨bs, os + k * 3, none⟩))).run Tryd.prog w' = .ok (.string ⟨y.toArray⟩) w') ∧ ((Instr.loadAt 4 (.pointer (some ⟨bs, os + k * 3 + 1, none⟩))).run Tryd.prog w' = .ok (.bool xd) w') ∧ ((Instr.loadAt 9 (.pointer (some ⟨bs, os + k * 3 + 2, none⟩))).run Tryd.prog w' = .ok (.string ⟨xb.toArray⟩) w'))) (by kernel_rfl) ⟨(f1.out _ hE.drew), ((f2.out _ hE.drew).2.1), ((f2.out _ hE.drew).2.2.1), ((f2.out _ hE.drew).2.2.2)⟩ (fun hS => ?_)
                        refine takeW 0 ⟨some 135, .move (.tmp 14), 44, "law.go:89", #[], none⟩ ?_ (.inl ⟨by rfl, ?_⟩) hS ?_
                        rotate_left
                        · (intro w hSw; (try dsimp only at hSw); go_simp; (try with_reducible rfl))
                        try simp only [Act.put, sb, s0, sz]
                        refine takeW 1 ⟨some 136, .move (.tmp 17), 3, "law.go:89", #[], none⟩ ?_ (.inl ⟨by rfl, ?_⟩) hS ?_
                        rotate_left
                        · (intro w hSw; (try dsimp only at hSw); go_simp; (try with_reducible rfl))
                        try simp only [Act.put, sb, s0, sz]
                        refine takeW 2 ⟨some 137, .indexAddr 44 (.tmp 135) (.tmp 136), 0, "law.go:89", #[⟨0, .data⟩, ⟨1, .data⟩], none⟩ ?_ (.inl ⟨by rfl, ?_⟩) hS ?_
                        rotate_left
                        · (intro w hSw; (try dsimp only at hSw); go_simp; (try with_reducible rfl))
                        try simp only [Act.put, sb, s0, sz]
                        refine takeW 3 ⟨some 138, .load 47 (.tmp 137), 47, "law.go:89", #[⟨2, .data⟩], none⟩ ?_ (.inl ⟨by rfl, ?_⟩) hS ?_
                        rotate_left
                        · (intro w hSw; (try dsimp only at hSw); go_simp; (try with_reducible rfl))
                        try simp only [Act.put, sb, s0, sz]
                        refine takeW 4 ⟨some 139, .move (.tmp 15), 22, "law.go:89", #[], none⟩ ?_ (.inl ⟨by rfl, ?_⟩) hS ?_
                        rotate_left
                        · (intro w hSw; (try dsimp only at hSw); go_simp; (try with_reducible rfl))
                        try simp only [Act.put, sb, s0, sz]
                        refine takeW 5 ⟨some 140, .move (.tmp 17), 3, "law.go:89", #[], none⟩ ?_ (.inl ⟨by rfl, ?_⟩) hS ?_
                        rotate_left
                        · (intro w hSw; (try dsimp only at hSw); go_simp; (try with_reducible rfl))
                        try simp only [Act.put, sb, s0, sz]
                        refine takeW 6 ⟨some 141, .indexAddr 22 (.tmp 139) (.tmp 140), 0, "law.go:89", #[⟨4, .data⟩, ⟨5, .data⟩], none⟩ ?_ (.inl ⟨by rfl, ?_⟩) hS ?_
                        rotate_left
                        · (intro w hSw; (try dsimp only at hSw); go_simp; (try with_reducible rfl))
                        try simp only [Act.put, sb, s0, sz]
                        refine takeW 7 ⟨some 142, .fieldAddr 41 (.tmp 141) 0, 0, "law.go:89", #[⟨6, .data⟩], none⟩ ?_ (.inl ⟨by rfl, ?_⟩) hS ?_
                        rotate_left
                        · (intro w hSw; (try dsimp only at hSw); go_simp; (try with_reducible rfl))
                        try simp only [Act.put, sb, s0, sz]
                        refine takeW 8 ⟨some 143, .load 9 (.tmp 142), 9, "law.go:89", #[⟨7, .data⟩], none⟩ ?_ (.inl ⟨by rfl, ?_⟩) hS ?_
                        rotate_left
                        · (intro w hSw; (try dsimp only at hSw); go_simp; (try with_reducible rfl))
                        try simp only [Act.put, sb, s0, sz]
                        refine takeW 9 ⟨some 144, .move (.tmp 16), 3, "law.go:89", #[], none⟩ ?_ (.inl ⟨by rfl, ?_⟩) hS ?_
                        rotate_left
                        · (intro w hSw; (try dsimp only at hSw); go_simp; (try with_reducible rfl))
                        try simp only [Act.put, sb, s0, sz]
                        refine takeW 10 ⟨some 145, .slice 9 (.tmp 143) (some (.tmp 144)) none none, 9, "law.go:89", #[⟨8, .data⟩, ⟨9, .data⟩], none⟩ ?_ (.inl ⟨by rfl, ?_⟩) hS ?_
                        rotate_left
                        · (intro w hSw; (try dsimp only at hSw); go_simp; (try with_reducible rfl))
                        try simp only [Act.put, sb, s0, sz]
                        refine takeW 11 ⟨some 146, .move (.tmp 15), 22, "law.go:89", #[], none⟩ ?_ (.inl ⟨by rfl, ?_⟩) hS ?_
                        rotate_left
                        · (intro w hSw; (try dsimp only at hSw); go_simp; (try with_reducible rfl))
                        try simp only [Act.put, sb, s0, sz]
                        refine takeW 12 ⟨some 147, .move (.tmp 17), 3, "law.go:89", #[], none⟩ ?_ (.inl ⟨by rfl, ?_⟩) hS ?_
                        rotate_left
                        · (intro w hSw; (try dsimp only at hSw); go_simp; (try with_reducible rfl))
                        try simp only [Act.put, sb, s0, sz]
                        refine takeW 13 ⟨some 148, .indexAddr 22 (.tmp 146) (.tmp 147), 0, "law.go:89", #[⟨11, .data⟩, ⟨12, .data⟩], none⟩ ?_ (.inl ⟨by rfl, ?_⟩) hS ?_
                        rotate_left
                        · (intro w hSw; (try dsimp only at hSw); go_simp; (try with_reducible rfl))
                        try simp only [Act.put, sb, s0, sz]
                        refine takeW 14 ⟨some 149, .fieldAddr 41 (.tmp 148) 1, 0, "law.go:89", #[⟨13, .data⟩], none⟩ ?_ (.inl ⟨by rfl, ?_⟩) hS ?_
                        rotate_left
                        · (intro w hSw; (try dsimp only at hSw); go_simp; (try with_reducible rfl))
                        try simp only [Act.put, sb, s0, sz]
                        refine takeW 15 ⟨some 150, .load 4 (.tmp 149), 4, "law.go:89", #[⟨14, .data⟩], none⟩ ?_ (.inl ⟨by rfl, ?_⟩) hS ?_
                        rotate_left
                        · (intro w hSw; (try dsimp only at hSw); go_simp; (try with_reducible rfl))
                        try simp only [Act.put, sb, s0, sz]
                        refine takeW 16 ⟨some 151, .move (.tmp 15), 22, "law.go:89", #[], none⟩ ?_ (.inl ⟨by rfl, ?_⟩) hS ?_
                        rotate_left
                        · (intro w hSw; (try dsimp only at hSw); go_simp; (try with_reducible rfl))
                        try simp only [Act.put, sb, s0, sz]
                        refine takeW 17 ⟨some 152, .move (.tmp 17), 3, "law.go:89", #[], none⟩ ?_ (.inl ⟨by rfl, ?_⟩) hS ?_
                        rotate_left
                        · (intro w hSw; (try dsimp only at hSw); go_simp; (try with_reducible rfl))
                        try simp only [Act.put, sb, s0, sz]
                        refine takeW 18 ⟨some 153, .indexAddr 22 (.tmp 151) (.tmp 152), 0, "law.go:89", #[⟨16, .data⟩, ⟨17, .data⟩], none⟩ ?_ (.inl ⟨by rfl, ?_⟩) hS ?_
                        rotate_left
                        · (intro w hSw; (try dsimp only at hSw); go_simp; (try with_reducible rfl))
                        try simp only [Act.put, sb, s0, sz]
                        refine takeW 19 ⟨some 154, .fieldAddr 41 (.tmp 153) 2, 0, "law.go:89", #[⟨18, .data⟩], none⟩ ?_ (.inl ⟨by rfl, ?_⟩) hS ?_
                        rotate_left
                        · (intro w hSw; (try dsimp only at hSw); go_simp; (try with_reducible rfl))
                        try simp only [Act.put, sb, s0, sz]
                        refine takeW 20 ⟨some 155, .load 9 (.tmp 154), 9, "law.go:89", #[⟨19, .data⟩], none⟩ ?_ (.inl ⟨by rfl, ?_⟩) hS ?_
                        rotate_left
                        · (intro w hSw; (try dsimp only at hSw); go_simp; (try with_reducible rfl))
                        try simp only [Act.put, sb, s0, sz]
                        refine takeW 21 ⟨some 156, .call { callee := .builtin .len, args := #[.tmp 155], argTypes := #[9] }, 3, "law.go:89", #[⟨20, .data⟩], none⟩ ?_ (.inl ⟨by rfl, ?_⟩) hS ?_
                        rotate_left
                        · (intro w hSw; (try dsimp only at hSw); go_simp; (try with_reducible rfl))
                        try simp only [Act.put, sb, s0, sz]
                        refine takeW 22 ⟨some 157, .build 47 #[(0, .tmp 145), (1, .tmp 150), (2, .tmp 156)], 47, "law.go:89", #[⟨10, .data⟩, ⟨15, .data⟩, ⟨21, .data⟩], none⟩ ?_ (.inl ⟨by rfl, ?_⟩) hS ?_
                        rotate_left
                        · (intro w hSw; (try dsimp only at hSw); go_simp; (try with_reducible rfl))
                        try simp only [Act.put, sb, s0, sz]
                        refine takeW 23 ⟨some 158, .binOp .neq 47 (.tmp 138) (.tmp 157) 47, 4, "law.go:89", #[⟨3, .data⟩, ⟨22, .data⟩], none⟩ ?_ (.inl ⟨by rfl, ?_⟩) hS ?_
                        rotate_left
                        · (intro w hSw; (try dsimp only at hSw); go_simp; (try with_reducible rfl))
                        try simp only [Act.put, sb, s0, sz]
                        refine wpAnyH_done (by kernel_rfl) ?_ _
                        clear hS
                        go_wp2
                        go_roundw
                        case rel => exact ⟨k + 1, hlt, by first | rfl | simp, hE.drew⟩
                        case measure => simp [intOf] <;> omega
                      · obtain rfl : k = ks.length := by omega
                        go_wp2_with (first
                          | go_skip
                          | (go_at_call 9; refine (HWk.out _ _ hE).mono ?_; clear hE; rintro e w8 ⟨v, rfl, rfl, hE⟩))
                        go_ret
                        exact ⟨_, rfl, rfl, hl _ hE⟩
end Go.Proofs.YtjmllpgmbaoebaaDoor
namespace Go.Proofs.YtjmllpgmbaoebaaDoor
open Go.RowKit Go.SL

def SpRel (p : List UInt8) (l : List HProp) (o fr i : Value) (wr : World) : Prop :=
  ∃ (pre : List (List UInt8)) (f k : Nat) (ao : Option Addr) (c : Nat), o = .slice ao pre.length c ∧ fr = .int .i64 f ∧ i = .int .i64 k ∧ pre.length ≤ k ∧ k ≤ p.length + 1 ∧
    ((f ≤ k ∧ k ≤ p.length ∧ cuts p = pre ++ cuts (p.drop f) ∧ ∀ b ∈ (p.drop f).take (k - f), b ≠ 47) ∨ (k = p.length + 1 ∧ cuts p = pre)) ∧ Ent (rowS ao c pre :: l) wr
set_option maxRecDepth 100000 in
set_option maxHeartbeats 4000000 in
theorem split_any {p : List UInt8} (hp : p.length ≤ 1000000) {l : List HProp} {w : World} (hE : Ent l w) :
    Calls Tryd.prog 19 #[.string ⟨p.toArray⟩] w (Ret fun v w' => ∃ ao c, v = .slice ao (cuts p).length c ∧ Ent (rowS ao c (cuts p) :: l) w') := by
  go_enter Tryd.func19, Tryd.ntmps19
  go_wp2
  go_loopw [3, 4, 5] (fun o fr i wr => SpRel p l o fr i wr) (fun _ _ i _ => p.length + 1 - (intOf i).toNat)
  case atStart => exact ⟨[], 0, 0, none, 0, rfl, rfl, rfl, Nat.le_refl _, Nat.zero_le _, .inl ⟨Nat.le_refl _, Nat.zero_le _, rfl, by simp⟩, hE.nil _ _⟩
  case round =>
    clear hE
    obtain ⟨pre, f, k, ao, c, rfl, rfl, rfl, hpk, hkl, hst, hE⟩ := hrel
    by_cases hlt : k ≤ p.length
    · obtain ⟨hf, _, hc, ha⟩ := hst.resolve_right (by rintro ⟨h, _⟩; omega)
      clear hst
      have hwk : wrap64 ((k : Int) + 1) = ((k + 1 : Nat) : Int) := by unfold wrap64; omega
      have hex : (⟨p.toArray⟩ : ByteArray).extract f k = ⟨((p.drop f).take (k - f)).toArray⟩ := extract_mk p f k
      by_cases hi : k < p.length
      · have hix := str_at p k (by rw [bytes_size]; exact hi)
        have Hnx := SL.hid (slash_next hf hi)
        have Hct := SL.hid (slash_cut hf hi)
        cases h47 : (((p.getD k 0).toNat : Int) == 47) with
        | false =>
          have H1 := SL.hid (show p.getD k 0 ≠ 47 by intro e; rw [e] at h47; simp at h47)
          have Hc := SL.hid hc
          have Ha := SL.hid ha
          clear hc ha hex
          generalize p.getD k 0 = b at *
          go_wp2
          go_roundw
          case rel =>
            refine ⟨pre, f, k + 1, ao, c, rfl, rfl, by first | rfl | simp, by omega, by omega, .inl ⟨by omega, by omega, Hc.out, ?_⟩, hE⟩
            rw [Hnx.out]
            intro d hd
            simp only [List.mem_append, List.mem_singleton] at hd
            rcases hd with hd | rfl
            · exact Ha.out d hd
            · exact H1.out
          case measure => simp [intOf] <;> omega
        | true =>
          have e47 : p.getD k 0 = 47 := by
            have : (p.getD k 0).toNat = 47 := by
              have h : ((p.getD k 0).toNat : Int) = 47 := by simpa using h47
              omega
            rw [← UInt8.toNat_inj, this]; rfl
          have Hcc := SL.hid (show cuts p = (pre ++ [(p.drop f).take (k - f)]) ++ cuts (p.drop (k + 1)) by rw [hc, Hct.out e47 ha]; simp)
          clear hc ha Hct Hnx
          generalize (p.drop f).take (k - f) = x at *
          generalize p.getD k 0 = b at *
          go_wp2_with (first
            | go_skip
            | ((with_reducible (show Go.wpList _ _ _ (Go.Oper.mk _ (.call { callee := .builtin .append, args := _, argTypes := _ }) _ _ _ _ :: _) _ _)); have hE9 := hE.alloc (.cells #[.string ⟨x.toArray⟩] 9); refine wpl_appendG hE9 1 rfl rfl rfl rfl rfl Tryd.underlying23 info_str (by decide) (m := 1) (news := [strv x]) (reads_pt hE9 0 rfl (off := 0) (fun j u hu => by rw [Nat.zero_add, List.getElem?_toArray]; exact hu)) rfl (by simp [strv, Value.oneCell']) (by omega) (by omega) ?_; clear hE9 hE; intro ao' c' w6 hE10; simp only [List.set_cons_zero, List.set_cons_succ] at hE10))
          go_roundw
          case measure => simp [intOf] <;> omega
          case rel =>
            have hF := hE10.tail
            have e1 : (pre ++ [x]).length = pre.length + 1 := by simp
            have e2 : (pre ++ [x]).map strv = pre.map strv ++ [strv x] := by simp
            refine ⟨pre ++ [x], k + 1, k + 1, ao', c', by rw [e1], by first | rfl | simp, by first | rfl | simp, by rw [e1]; omega, by omega, .inl ⟨Nat.le_refl _, by omega, Hcc.out, by simp⟩, by simp only [rowS, e1, e2]; exact hF⟩
      · obtain rfl : k = p.length := by omega
        obtain ⟨ex, ec⟩ := slash_last hf ha
        have Hcc := SL.hid (show cuts p = pre ++ [(p.drop f).take (p.length - f)] by rw [hc, ec, ex])
        clear hc ha ex ec
        generalize (p.drop f).take (p.length - f) = x at *
        go_wp2_with (first
          | go_skip
          | ((with_reducible (show Go.wpList _ _ _ (Go.Oper.mk _ (.call { callee := .builtin .append, args := _, argTypes := _ }) _ _ _ _ :: _) _ _)); have hE9 := hE.alloc (.cells #[.string ⟨x.toArray⟩] 9); refine wpl_appendG hE9 1 rfl rfl rfl rfl rfl Tryd.underlying23 info_str (by decide) (m := 1) (news := [strv x]) (reads_pt hE9 0 rfl (off := 0) (fun j u hu => by rw [Nat.zero_add, List.getElem?_toArray]; exact hu)) rfl (by simp [strv, Value.oneCell']) (by omega) (by omega) ?_; clear hE9 hE; intro ao' c' w6 hE10; simp only [List.set_cons_zero, List.set_cons_succ] at hE10))
        go_roundw
        case measure => simp [intOf] <;> omega
        case rel =>
          have hF := hE10.tail
          have e1 : (pre ++ [x]).length = pre.length + 1 := by simp
          have e2 : (pre ++ [x]).map strv = pre.map strv ++ [strv x] := by simp
          refine ⟨pre ++ [x], p.length + 1, p.length + 1, ao', c', by rw [e1], by first | rfl | simp, by first | rfl | simp, by rw [e1]; omega, by omega, .inr ⟨by omega, by rw [Hcc.out]⟩, by simp only [rowS, e1, e2]; exact hF⟩
    · obtain ⟨_, hc⟩ := hst.resolve_left (by rintro ⟨_, h, _⟩; omega)
      clear hst
      subst hc
      go_wp2
      go_ret
      exact ⟨_, rfl, ao, c, rfl, hE⟩
end Go.Proofs.YtjmllpgmbaoebaaDoor
namespace Go.Proofs.YtjmllpgmbaoebaaDoor
open Go.RowKit Go.SL

/-- what a good tree holds at an entry's path -/
theorem good_at {t : Tr} {es : List En} (h : Good t es) {x : En} (hx : x ∈ es) : cuts x.path = splitL x.path ∧ (splitL x.path).length ≤ 6 ∧ ∃ p, atT 11 10 (splitL x.path) t = (0, p) ∧ p.dir = x.dir ∧ p.data = x.data ∧ Rising p.names ∧ p.kids.length ≤ 6 := by
  obtain ⟨⟨r1, r2, r3⟩, hw, _⟩ := h
  obtain ⟨hs, hne⟩ := r1 x hx
  obtain ⟨ha, h6, hj, he⟩ := split_names hs
  have hcu : cuts x.path = splitL x.path := by
    unfold splitE at hs
    unfold splitL
    rw [if_neg hne] at hs ⊢
    by_cases h1 : (cuts x.path).all isName = true
    · rw [if_pos h1] at hs ⊢
      by_cases h2 : (cuts x.path).length ≤ 6
      · rw [if_pos h2]
      · rw [if_neg h2] at hs; cases hs
    · rw [if_neg h1] at hs; cases hs
  refine ⟨hcu, h6, ?_⟩
  have hl := (r3 (splitL x.path) (fun h0 => hne (he.1 h0)) x.dir x.data).2 ⟨x, hx, rfl, rfl, rfl⟩
  rw [Tr.look?] at hl
  cases hg : Tr.get? (splitL x.path) t with
  | none => rw [hg] at hl; cases hl
  | some p =>
    rw [hg] at hl
    have hpd : p.dir = x.dir ∧ p.data = x.data := by simpa using hl
    have hat := atT_get (kE := 11) (nE := 10) (by decide) (by decide) (q := splitL x.path) hw
    obtain ⟨d, hwp⟩ := wf_get hw hg
    refine ⟨p, Prod.ext (hat.1.2 (by rw [hg]; rfl)) (hat.2 p hg), hpd.1, hpd.2, Tr.wf_rising hwp, (Tr.wf_size hwp).2⟩
end Go.Proofs.YtjmllpgmbaoebaaDoor
namespace Go.Proofs.YtjmllpgmbaoebaaDoor
open Go.RowKit Go.SL

def InRel (n : Nat) (l : List HProp) (i : Value) (wr : World) : Prop := ∃ j : Nat, 1 ≤ j ∧ j ≤ n + 1 ∧ i = .int .i64 j ∧ Ent l wr
set_option maxRecDepth 100000 in
set_option maxHeartbeats 8000000 in
attribute [-go_sem] Instr.loadAt in
theorem FoldBack_any {es : List En} {ao : Option Addr} {c : Nat} {l : List HProp} {w : World} (hk : Knows l (reads (.slice ao es.length c) es.length (es.flatMap enC))) (hE : Ent l w) :
    Calls Tryd.prog 4 #[.slice ao es.length c] w (Ret fun v w' => v = .bool true ∧ Ent l w') := by
  have HGr := SL.hid (show ∀ w, Ent l w → Calls Tryd.prog 8 #[.slice ao es.length c] w (Ret fun v w' => v = .bool (great es) ∧ Ent l w') from fun w h => Great_any hk h)
  have HWk := SL.hid (fun (L : List HProp) (w : World) (h : Ent L w) => wakes20_any h)
  cases hgr : great es with
  | true =>
    rw [hgr] at HGr
    clear hgr
    go_enter Tryd.func4, Tryd.ntmps4
    go_wp2_with (first
      | go_skip
      | (go_at_call 8; refine (HGr.out _ hE).mono ?_; clear hE; rintro e w2 ⟨v, rfl, rfl, hE⟩)
      | (go_at_call 9; refine (HWk.out _ _ hE).mono ?_; clear hE; rintro e w3 ⟨v, rfl, rfl, hE⟩))
    go_ret
    exact ⟨_, rfl, rfl, hE⟩
  | false =>
    rw [hgr] at HGr
    obtain ⟨hle, hbd⟩ := great_not.1 hgr
    clear hgr
    cases he : ((buildT es).1 == 0) with
    | false =>
      have HBu := SL.hid (show ∀ w, Ent l w → Calls Tryd.prog 10 #[.slice ao es.length c] w (Ret fun v w' => ∃ m a c, v = .tuple #[.agg #[.bool false, .string ⟨#[]⟩, .slice a 0 c], .int .i64 (buildT es).1] ∧ Ent (m ++ l) w') from fun w h => by
        refine (Build_any (by omega) (fun x hx => ⟨by have := (hbd x hx).1; omega, by have := (hbd x hx).2; omega⟩) hk h).mono ?_
        rintro e w' ⟨v, rfl, m, kv, h, hE, hK⟩
        rw [buildT_zero (by simpa using he)] at h hK
        obtain ⟨a, c', rfl⟩ := hK.slice
        exact ⟨_, rfl, m, a, c', h, hE⟩)
      have hne : ((buildT es).1 != 0) = true := by rw [bne, he]; rfl
      clear he hbd hle hk
      generalize (buildT es).1 = er at *
      go_enter Tryd.func4, Tryd.ntmps4
      go_wp2_with (first
        | go_skip
        | (go_at_call 8; refine (HGr.out _ hE).mono ?_; clear hE; rintro e w2 ⟨v, rfl, rfl, hE⟩)
        | (go_at_call 10; refine (HBu.out _ hE).mono ?_; clear hE; rintro e w3 ⟨v, rfl, m, a, c', rfl, hE⟩)
        | (go_at_call 9; refine (HWk.out _ _ hE).mono ?_; clear hE; rintro e w3 ⟨v, rfl, rfl, hE⟩)
        | ((with_reducible (show Go.wpList _ _ _ (Go.Oper.mk _ (.alloc _) _ _ _ _ :: _) _ _)); refine wpl_alloc hE rfl rfl (by simp [go_sem]; rfl) ?_; clear hE; intro b3 w hE; simp only [Act.eval, Act.put, List.setIfInBounds_toArray, List.set_cons_zero, List.set_cons_succ, getD_lit, List.getD_cons_succ, List.getD_cons_zero, Value.cells] at hE)
        | ((with_reducible (show Go.wpList _ _ _ (Go.Oper.mk _ (.store 28 _ _) _ _ _ _ :: _) _ _)); (first | (refine wpl_storeW hE 0 rfl rfl rfl (xs := [.bool false, .string ⟨#[]⟩, .slice a 0 c']) rfl rfl Tryd.sizeOf28 rfl (by simp [Value.oneCell']) rfl ?_) | (refine wpl_storeW hE 1 rfl rfl rfl (xs := [.bool false, .string ⟨#[]⟩, .slice a 0 c']) rfl rfl Tryd.sizeOf28 rfl (by simp [Value.oneCell']) rfl ?_) | (refine wpl_storeW hE 2 rfl rfl rfl (xs := [.bool false, .string ⟨#[]⟩, .slice a 0 c']) rfl rfl Tryd.sizeOf28 rfl (by simp [Value.oneCell']) rfl ?_) | (refine wpl_storeW hE 3 rfl rfl rfl (xs := [.bool false, .string ⟨#[]⟩, .slice a 0 c']) rfl rfl Tryd.sizeOf28 rfl (by simp [Value.oneCell']) rfl ?_) | (refine wpl_storeW hE 4 rfl rfl rfl (xs := [.bool false, .string ⟨#[]⟩, .slice a 0 c']) rfl rfl Tryd.sizeOf28 rfl (by simp [Value.oneCell']) rfl ?_) | (refine wpl_storeW hE 5 rfl rfl rfl (xs := [.bool false, .string ⟨#[]⟩, .slice a 0 c']) rfl rfl Tryd.sizeOf28 rfl (by simp [Value.oneCell']) rfl ?_) | (refine wpl_storeW hE 6 rfl rfl rfl (xs := [.bool false, .string ⟨#[]⟩, .slice a 0 c']) rfl rfl Tryd.sizeOf28 rfl (by simp [Value.oneCell']) rfl ?_) | (refine wpl_storeW hE 7 rfl rfl rfl (xs := [.bool false, .string ⟨#[]⟩, .slice a 0 c']) rfl rfl Tryd.sizeOf28 rfl (by simp [Value.oneCell']) rfl ?_)); clear hE; intro w hE; simp only [List.set_cons_zero, List.set_cons_succ] at hE)
        | ((with_reducible (show Go.wpList _ _ _ (Go.Oper.mk _ (.load _ _) _ _ _ _ :: _) _ _)); (first | (refine wpl_load1 hE 0 rfl rfl rfl rfl (by simp [go_sem]) rfl ?_) | (refine wpl_load1 hE 1 rfl rfl rfl rfl (by simp [go_sem]) rfl ?_) | (refine wpl_load1 hE 2 rfl rfl rfl rfl (by simp [go_sem]) rfl ?_) | (refine wpl_load1 hE 3 rfl rfl rfl rfl (by simp [go_sem]) rfl ?_) | (refine wpl_load1 hE 4 rfl rfl rfl rfl (by simp [go_sem]) rfl ?_) | (refine wpl_load1 hE 5 rfl rfl rfl rfl (by simp [go_sem]) rfl ?_) | (refine wpl_load1 hE 6 rfl rfl rfl rfl (by simp [go_sem]) rfl ?_) | (refine wpl_load1 hE 7 rfl rfl rfl rfl (by simp [go_sem]) rfl ?_))))
      go_ret
      exact ⟨_, rfl, rfl, hE.tail.drop⟩
    | true =>
      have he0 : (buildT es).1 = 0 := by simpa using he
      have hG := ((build_same es).2 he0).1
      rw [((build_same es).2 he0).2] at hG
      have h64 : es.length ≤ 64 := by
        rcases Nat.lt_or_ge 64 es.length with h | h
        · rw [buildT, if_pos h] at he0; cases he0
        · exact h
      have HBu := SL.hid (show ∀ w, Ent l w → Calls Tryd.prog 10 #[.slice ao es.length c] w (Ret fun v w' => ∃ m a c, v = .tuple #[.agg #[.bool (buildT es).2.dir, .string ⟨(buildT es).2.data.toArray⟩, .slice a (buildT es).2.kids.length c], .int .i64 0] ∧ Ent (m ++ l) w' ∧ KidsAt (m ++ l) (.slice a (buildT es).2.kids.length c) (buildT es).2.kids) from fun w h => by
        refine (Build_any (by omega) (fun x hx => ⟨by have := (hbd x hx).1; omega, by have := (hbd x hx).2; omega⟩) hk h).mono ?_
        rintro e w' ⟨v, rfl, m, kv, h, hE, hK⟩
        rw [he0] at h
        obtain ⟨a, c', rfl⟩ := hK.slice
        exact ⟨_, rfl, m, a, c', h, hE, hK⟩)
      clear he he0
      generalize (buildT es).2 = t at *
      have hw := hG.2.1
      have hall := all_perm hG
      have hba := build_entries hG h64
      have hbd2 : ∀ x ∈ entT 6 [] t, x.path.length ≤ 1000000 ∧ x.data.length ≤ 1000000 := fun x hx => by
        have := hbd x (hall.mem_iff.1 hx)
        exact ⟨by omega, by omega⟩
      have hat := SL.hid (fun (x : En) (hx : x ∈ es) => good_at hG hx)
      have HEn := SL.hid (fun (a : Option Addr) (c : Nat) (L : List HProp) (w : World) (hk : KidsAt L (.slice a t.kids.length c) t.kids) (hE : Ent L w) =>
        show Calls Tryd.prog 13 #[.agg #[.bool t.dir, .string ⟨t.data.toArray⟩, .slice a t.kids.length c]] w (Ret fun v w' => ∃ a' c' m, v = .slice a' (entT 6 [] t).length c' ∧ Ent (rowEn a' c' (entT 6 [] t) :: (m ++ L)) w') from
          Entries_any hw (by decide) hk (by rw [hall.length_eq]; omega) hE)
      have HB2 := SL.hid (fun (a : Option Addr) (c : Nat) (L : List HProp) (w : World) (hE : Ent (rowEn a c (entT 6 [] t) :: L) w) =>
        show Calls Tryd.prog 10 #[.slice a (entT 6 [] t).length c] w (Ret fun v w' => ∃ m a' c', v = .tuple #[.agg #[.bool t.dir, .string ⟨t.data.toArray⟩, .slice a' t.kids.length c'], .int .i64 0] ∧ Ent (m ++ (rowEn a c (entT 6 [] t) :: L)) w' ∧ KidsAt (m ++ (rowEn a c (entT 6 [] t) :: L)) (.slice a' t.kids.length c') t.kids) from by
          refine (Build_any (by rw [hall.length_eq]; omega) hbd2 (fun w h => reads_row h 0 rfl) hE).mono ?_
          rintro e w' ⟨v, rfl, m, kv, h, hE, hK⟩
          rw [hba] at h hK
          obtain ⟨a', c', rfl⟩ := hK.slice
          exact ⟨_, rfl, m, a', c', h, hE, hK⟩)
      have HRo := SL.hid (fun (a : Option Addr) (c : Nat) (a' : Option Addr) (c' : Nat) (m1 m2 : List HProp) (b : HProp) (L : List HProp) (w : World) (hE : Ent (rowEn a c (entT 6 [] t) :: (m1 ++ (b :: (m2 ++ (rowEn a' c' (entT 6 [] t) :: L))))) w) =>
        Row_same (es := entT 6 [] t) (by rw [hall.length_eq]; omega) (ao := a) (bo := a') (c := c) (d := c') (fun w h => reads_row h 0 rfl) (fun w h => reads_row h.tail.drop.tail.drop 0 rfl) hE)
      have hneq : (((entT 6 [] t).length : Int) != (es.length : Int)) = false := by rw [hall.length_eq]; simp
      have HAt := SL.hid (fun (x : En) (hx : x ∈ es) (a : Option Addr) (c : Nat) (lk : List HProp) (hK : KidsAt lk (.slice a t.kids.length c) t.kids) (an : Option Addr) (cn : Nat) (L : List HProp) (w : World) (hs : lk <:+ L) (hE : Ent (rowS an cn (cuts x.path) :: L) w) =>
        show Calls Tryd.prog 15 #[.agg #[.bool t.dir, .string ⟨t.data.toArray⟩, .slice a t.kids.length c], .slice an (cuts x.path).length cn] w (Ret fun v w' => ∃ (p : Tr) (a' : Option Addr) (c' : Nat), v = .tuple #[.agg #[.bool x.dir, .string ⟨x.data.toArray⟩, .slice a' p.kids.length c'], .int .i64 0] ∧ Rising p.names ∧ p.kids.length ≤ 6 ∧ Ent (rowS an cn (cuts x.path) :: L) w' ∧ KidsAt lk (.slice a' p.kids.length c') p.kids) from by
          obtain ⟨h1, h2, p, h3, h4, h5, h6, h7⟩ := hat.out x hx
          rw [h1] at hE ⊢
          refine (At_in (l := rowS an cn (splitL x.path) :: L) hw (fun W h => h.suf (hs.trans (List.suffix_cons _ _))) hK (by omega) (fun w h => reads_row h 0 rfl) hE).mono ?_
          rintro e w' ⟨v, rfl, kv', h, hE, hK⟩
          rw [h3] at h hK
          obtain ⟨a', c', rfl⟩ := hK.slice
          refine ⟨_, rfl, p, a', c', ?_, h6, h7, hE, hK⟩
          rw [← h4, ← h5]
          exact h)
      have Hbd := SL.hid hbd
      clear hba hall hbd2 hG hat hbd hw
      generalize entT 6 [] t = all at *
      have Tok := SL.hid True.intro
      go_enter Tryd.func4, Tryd.ntmps4
      go_wp2_with (first
        | go_skip
        | (go_at_call 8; refine (HGr.out _ hE).mono ?_; clear hE; rintro e w2 ⟨v, rfl, rfl, hE⟩)
        | (go_at_call 10; refine (HBu.out _ hE).mono ?_; clear hE HBu; rintro e w3 ⟨v, rfl, m1, a1, c1, rfl, hE, hKA⟩)
        | (go_at_call 10; refine (HB2.out _ _ _ _ hE).mono ?_; clear hE HB2; rintro e w3 ⟨v, rfl, m3, a3, c3, rfl, hE, hKB⟩)
        | (go_at_call 13; refine (HEn.out _ _ _ _ (hKB.suf (List.suffix_cons _ _)) hE).mono ?_; clear hE; rintro e w3 ⟨v, rfl, a4, c4, m4, rfl, hE⟩)
        | (go_at_call 13; refine (HEn.out _ _ _ _ (hKA.suf (List.suffix_cons _ _)) hE).mono ?_; clear hE; rintro e w3 ⟨v, rfl, a2, c2, m2, rfl, hE⟩)
        | (go_at_call 12; refine (HRo.out _ _ _ _ _ _ _ _ _ hE).mono ?_; clear hE; rintro e w3 ⟨v, rfl, rfl, hE⟩)
        | ((with_reducible (show Go.wpList _ _ _ (Go.Oper.mk _ (.store 28 (.tmp 3) _) _ _ _ _ :: _) _ _)); refine wpl_storeW hE 0 rfl rfl rfl (xs := [.bool t.dir, .string ⟨t.data.toArray⟩, .slice a1 t.kids.length c1]) rfl rfl Tryd.sizeOf28 rfl (by simp [Value.oneCell']) rfl ?_; clear hE; intro w hE; simp only [List.set_cons_zero] at hE)
        | ((with_reducible (show Go.wpList _ _ _ (Go.Oper.mk _ (.store 28 _ _) _ _ _ _ :: _) _ _)); refine wpl_storeW hE 0 rfl rfl rfl (xs := [.bool t.dir, .string ⟨t.data.toArray⟩, .slice a3 t.kids.length c3]) rfl rfl Tryd.sizeOf28 rfl (by simp [Value.oneCell']) rfl ?_; clear hE; intro w hE; simp only [List.set_cons_zero] at hE)
        | ((with_reducible (show Go.wpList _ _ _ (Go.Oper.mk _ (.alloc 28) _ _ _ _ :: _) _ _)); clear Tok; refine wpl_alloc hE rfl rfl (by simp [go_sem]; rfl) ?_; clear hE; intro b3 w hE; simp only [Act.eval, Act.put, List.setIfInBounds_toArray, List.set_cons_zero, List.set_cons_succ, getD_lit, List.getD_cons_succ, List.getD_cons_zero, Value.cells] at hE)
        | ((with_reducible (show Go.wpList _ _ _ (Go.Oper.mk _ (.alloc 28) _ _ _ _ :: _) _ _)); refine wpl_alloc hE rfl rfl (by simp [go_sem]; rfl) ?_; clear hE; intro b6 w hE; simp only [Act.eval, Act.put, List.setIfInBounds_toArray, List.set_cons_zero, List.set_cons_succ, getD_lit, List.getD_cons_succ, List.getD_cons_zero, Value.cells] at hE)
        | ((with_reducible (show Go.wpList _ _ _ (Go.Oper.mk _ (.load 28 _) _ _ _ _ :: _) _ _)); (first | (refine wpl_loadW hE 0 rfl rfl rfl rfl Tryd.isAgg28 Tryd.sizeOf28 rfl ?_) | (refine wpl_loadW hE 1 rfl rfl rfl rfl Tryd.isAgg28 Tryd.sizeOf28 rfl ?_) | (refine wpl_loadW hE 2 rfl rfl rfl rfl Tryd.isAgg28 Tryd.sizeOf28 rfl ?_) | (refine wpl_loadW hE 3 rfl rfl rfl rfl Tryd.isAgg28 Tryd.sizeOf28 rfl ?_) | (refine wpl_loadW hE 4 rfl rfl rfl rfl Tryd.isAgg28 Tryd.sizeOf28 rfl ?_) | (refine wpl_loadW hE 5 rfl rfl rfl rfl Tryd.isAgg28 Tryd.sizeOf28 rfl ?_) | (refine wpl_loadW hE 6 rfl rfl rfl rfl Tryd.isAgg28 Tryd.sizeOf28 rfl ?_) | (refine wpl_loadW hE 7 rfl rfl rfl rfl Tryd.isAgg28 Tryd.sizeOf28 rfl ?_))))
      replace hE := hE.tail.drop.tail.drop.tail.drop
      clear HEn HRo HGr hneq hKB
      go_loopw [8] (fun i wr => CntRel es.length (pt b3 (.cells #[.bool t.dir, .string ⟨t.data.toArray⟩, .slice a1 t.kids.length c1] 28) :: (m1 ++ l)) i wr) (fun i _ => es.length - (intOf i).toNat)
      case atStart => exact ⟨0, Nat.zero_le _, rfl, hE⟩
      case round =>
        clear hE
        obtain ⟨k, hkn, rfl, hE⟩ := hrel
        by_cases hlt : k < es.length
        · obtain ⟨b, off, rfl, hz⟩ := en_at (hk _ hE.tail.drop) hlt
          clear hz
          have f0 := SL.hid (show ∀ w, Ent (m1 ++ l) w → _ from fun w h => load_en (hk w h.drop) hlt)
          have HS := SL.hid (fun (L : List HProp) (w : World) (h : Ent L w) => split_any (p := es[k].path) (by have := (Hbd.out _ (List.getElem_mem hlt)).1; omega) h)
          have HA := SL.hid (HAt.out es[k] (List.getElem_mem hlt) a1 c1 _ hKA)
          generalize es[k] = x at *
          obtain ⟨xp, xd, xb⟩ := x
          simp only at f0 HS HA
          generalize cuts xp = cs at *
          go_wp2
          refine wp_region_held_drew (S := (fun w' => ((Instr.loadAt 28 (.pointer (some ⟨b3, 0, none⟩))).run Tryd.prog w' = .ok (.agg [.bool t.dir, .string ⟨t.data.toArray⟩, .slice a1 t.kids.length c1].toArray) w') ∧ ((Instr.loadAt 9 (.pointer (some ⟨b, off + k * 3, none⟩))).run Tryd.prog w' = .ok (.string ⟨xp.toArray⟩) w'))) (by kernel_rfl) ⟨(atWm hE.drew (by repeat (first | exact List.Mem.head _ | refine List.Mem.tail _ ?_)) Tryd.isAgg28 Tryd.sizeOf28 rfl), ((f0.out _ (hE.drew.suf (by repeat (first | exact List.suffix_refl _ | refine List.IsSuffix.trans ?_ (List.suffix_cons _ _))))).2.1)⟩ (fun hS => ?_)
          refine takeW 0 ⟨some 59, .load 28 (.tmp 3), 28, "law.go:111", #[], none⟩ ?_ (.inl ⟨by rfl, ?_⟩) hS ?_
          rotate_left
          · (intro w hSw; (try dsimp only at hSw); go_simp; (try with_reducible rfl))
          try simp only [Act.put, sb, s0, sz]
          refine takeW 1 ⟨some 60, .move (.tmp 0), 22, "law.go:111", #[], none⟩ ?_ (.inl ⟨by rfl, ?_⟩) hS ?_
          rotate_left
          · (intro w hSw; (try dsimp only at hSw); go_simp; (try with_reducible rfl))
          try simp only [Act.put, sb, s0, sz]
          refine takeW 2 ⟨some 61, .move (.tmp 8), 3, "law.go:111", #[], none⟩ ?_ (.inl ⟨by rfl, ?_⟩) hS ?_
          rotate_left
          · (intro w hSw; (try dsimp only at hSw); go_simp; (try with_reducible rfl))
          try simp only [Act.put, sb, s0, sz]
          refine takeW 3 ⟨some 62, .indexAddr 22 (.tmp 60) (.tmp 61), 0, "law.go:111", #[⟨1, .data⟩, ⟨2, .data⟩], none⟩ ?_ (.inl ⟨by rfl, ?_⟩) hS ?_
          rotate_left
          · (intro w hSw; (try dsimp only at hSw); go_simp; (try with_reducible rfl))
          try simp only [Act.put, sb, s0, sz]
          refine takeW 4 ⟨some 63, .fieldAddr 41 (.tmp 62) 0, 0, "law.go:111", #[⟨3, .data⟩], none⟩ ?_ (.inl ⟨by rfl, ?_⟩) hS ?_
          rotate_left
          · (intro w hSw; (try dsimp only at hSw); go_simp; (try with_reducible rfl))
          try simp only [Act.put, sb, s0, sz]
          refine takeW 5 ⟨some 64, .load 9 (.tmp 63), 9, "law.go:111", #[⟨4, .data⟩], none⟩ ?_ (.inl ⟨by rfl, ?_⟩) hS ?_
          rotate_left
          · (intro w hSw; (try dsimp only at hSw); go_simp; (try with_reducible rfl))
          try simp only [Act.put, sb, s0, sz]
          refine wpAnyH_ready (rs := [6, 11]) (by kernel_rfl) (by simp) ?_
          refine (AllReadyH.cons (o := { dst := some 65, op := Go.Op.call { callee := Go.Callee.value (Go.Operand.func 19), args := #[Go.Operand.tmp 64], argTypes := #[9] }, type := 23, pos := "law.go:111", after := #[{ on := 5, ground := Go.Ground.data }], guard := none }) rfl (fun K hK => ?_) (AllReadyH.cons (o := { dst := some 9, op := Go.Op.alloc 28, type := 0, pos := "law.go:111", after := #[], guard := none }) rfl (fun K hK => ?_) AllReadyH.nil))
          focus
            (go_simp; (first | have H := HS.out _ _ hAl | have H := HS.out _ _ hE.drew); refine H.mono ?_; clear H; rintro e w3 ⟨v, rfl, an, cn, rfl, hSp⟩)
            refine hK.out _ _ ⟨(atWm hSp (by repeat (first | exact List.Mem.head _ | refine List.Mem.tail _ ?_)) Tryd.isAgg28 Tryd.sizeOf28 rfl), ((f0.out _ (hSp.suf (by repeat (first | exact List.suffix_refl _ | refine List.IsSuffix.trans ?_ (List.suffix_cons _ _))))).2.1)⟩ (fun hS => ?_)
            clear hK K
            try simp only [Act.put, sb, s0, sz]
            refine wpAnyH_ready (rs := [7, 11]) (by kernel_rfl) (by simp) ?_
            refine (AllReadyH.cons (o := { dst := some 66, op := Go.Op.call { callee := Go.Callee.value (Go.Operand.func 15), args := #[Go.Operand.tmp 59, Go.Operand.tmp 65], argTypes := #[28, 23] }, type := 30, pos := "law.go:111", after := #[{ on := 0, ground := Go.Ground.data }, { on := 6, ground := Go.Ground.data }, { on := 6, ground := Go.Ground.chain }], guard := none }) rfl (fun K hK => ?_) (AllReadyH.cons (o := { dst := some 9, op := Go.Op.alloc 28, type := 0, pos := "law.go:111", after := #[], guard := none }) rfl (fun K hK => ?_) AllReadyH.nil))
            focus
              (go_simp; (first | have H := HA.out _ _ _ _ (by repeat (first | exact List.suffix_refl _ | refine List.IsSuffix.trans ?_ (List.suffix_cons _ _))) (hAl.front 1 rfl) | have H := HA.out _ _ _ _ (by repeat (first | exact List.suffix_refl _ | refine List.IsSuffix.trans ?_ (List.suffix_cons _ _))) hSp); refine H.mono ?_; clear H; rintro e w4 ⟨v, rfl, p, ap, cp, rfl, hri, hk6, hAt, hKp⟩)
              refine hK.out _ _ ⟨(atWm hAt (by repeat (first | exact List.Mem.head _ | refine List.Mem.tail _ ?_)) Tryd.isAgg28 Tryd.sizeOf28 rfl), ((f0.out _ (hAt.suf (by repeat (first | exact List.suffix_refl _ | refine List.IsSuffix.trans ?_ (List.suffix_cons _ _))))).2.1)⟩ (fun hS => ?_)
              clear hK K
              try simp only [Act.put, sb, s0, sz]
              refine takeW 8 ⟨some 58, .move (.tmp 66), 30, "law.go:111", #[⟨7, .data⟩], none⟩ ?_ (.inl ⟨by rfl, ?_⟩) hS ?_
              rotate_left
              · (intro w hSw; (try dsimp only at hSw); go_simp; (try with_reducible rfl))
              try simp only [Act.put, sb, s0, sz]
              refine takeW 9 ⟨some 67, .extract (.tmp 58) 0, 28, "law.go:111", #[⟨8, .data⟩], none⟩ ?_ (.inl ⟨by rfl, ?_⟩) hS ?_
              rotate_left
              · (intro w hSw; (try dsimp only at hSw); go_simp; (try with_reducible rfl))
              try simp only [Act.put, sb, s0, sz]
              refine takeW 10 ⟨some 68, .extract (.tmp 58) 1, 29, "law.go:111", #[⟨8, .data⟩, { on := 12, ground := Go.Ground.gcOnly Go.Departure.lateStores }], none⟩ ?_ (.inl ⟨by rfl, ?_⟩) hS ?_
              rotate_left
              · (intro w hSw; (try dsimp only at hSw); go_simp; (try with_reducible rfl))
              try simp only [Act.put, sb, s0, sz]
              refine wpAnyH_ready (rs := [11]) (by kernel_rfl) (by simp) ?_
              refine (AllReadyH.cons (o := { dst := some 9, op := Go.Op.alloc 28, type := 0, pos := "law.go:111", after := #[], guard := none }) rfl (fun K hK => ?_) AllReadyH.nil)
              (go_simp; (first | have hAl := hAt.alloc (.cells #[.bool false, .string ⟨#[]⟩, .slice none 0 0] 28) | have hAl := hSp.alloc (.cells #[.bool false, .string ⟨#[]⟩, .slice none 0 0] 28) | have hAl := hE.drew.alloc (.cells #[.bool false, .string ⟨#[]⟩, .slice none 0 0] 28)))
              refine hK.out _ _ ⟨(atWm hAl (by repeat (first | exact List.Mem.head _ | refine List.Mem.tail _ ?_)) Tryd.isAgg28 Tryd.sizeOf28 rfl), ((f0.out _ (hAl.suf (by repeat (first | exact List.suffix_refl _ | refine List.IsSuffix.trans ?_ (List.suffix_cons _ _))))).2.1)⟩ (fun hS => ?_)
              clear hK K
              try simp only [Act.put, sb, s0, sz]
              refine wpAnyH_ready (rs := [12]) (by kernel_rfl) (by simp) ?_
              refine (AllReadyH.cons (o := { dst := none, op := Go.Op.store 28 (Go.Operand.tmp 9) (Go.Operand.tmp 67), type := 0, pos := "law.go:111", after := #[{ on := 11, ground := Go.Ground.data }, { on := 9, ground := Go.Ground.data }, { on := 7, ground := Go.Ground.chain }, { on := 0, ground := Go.Ground.phase }, { on := 1, ground := Go.Ground.phase }, { on := 2, ground := Go.Ground.phase }, { on := 3, ground := Go.Ground.phase }, { on := 4, ground := Go.Ground.phase }, { on := 5, ground := Go.Ground.phase }, { on := 6, ground := Go.Ground.phase }, { on := 7, ground := Go.Ground.phase }, { on := 8, ground := Go.Ground.phase }, { on := 9, ground := Go.Ground.phase }, { on := 10, ground := Go.Ground.textOnly Go.Departure.lateStores }, { on := 11, ground := Go.Ground.phase }], guard := none }) rfl (fun K hK => ?_) AllReadyH.nil)
              ((first | refine step_storeW hAl 0 rfl (by rfl) (by rfl) (by rfl) (xs := [.bool xd, .string ⟨xb.toArray⟩, .slice ap p.kids.length cp]) (by rfl) Tryd.sizeOf28 rfl (by simp [Value.oneCell']) rfl ?_ | refine step_storeW hAt 1 rfl (by rfl) (by rfl) (by rfl) (xs := [.bool xd, .string ⟨xb.toArray⟩, .slice ap p.kids.length cp]) (by rfl) Tryd.sizeOf28 rfl (by simp [Value.oneCell']) rfl ?_); intro w7 hEs; simp only [List.set_cons_zero, List.set_cons_succ] at hEs)
              refine hK.out _ _ ⟨(atWm hEs (by repeat (first | exact List.Mem.head _ | refine List.Mem.tail _ ?_)) Tryd.isAgg28 Tryd.sizeOf28 rfl), ((f0.out _ (hEs.suf (by repeat (first | exact List.suffix_refl _ | refine List.IsSuffix.trans ?_ (List.suffix_cons _ _))))).2.1)⟩ (fun hS => ?_)
              clear hK K
              try simp only [Act.put, sb, s0, sz]
              refine takeW 13 ⟨some 10, .assign (.tmp 68), 29, "law.go:111", #[⟨10, .data⟩, ⟨12, .chain⟩, ⟨0, .phase⟩, ⟨1, .phase⟩, ⟨2, .phase⟩, ⟨3, .phase⟩, ⟨4, .phase⟩, ⟨5, .phase⟩, ⟨6, .phase⟩, ⟨7, .phase⟩, ⟨8, .phase⟩, ⟨9, .phase⟩, ⟨10, .phase⟩, ⟨11, .phase⟩, ⟨12, .phase⟩], none⟩ ?_ (.inl ⟨by rfl, ?_⟩) hS ?_
              rotate_left
              · (intro w hSw; (try dsimp only at hSw); go_simp; (try with_reducible rfl))
              try simp only [Act.put, sb, s0, sz]
              refine wpAnyH_done (by kernel_rfl) ?_ _
            rotate_right
            focus
              (go_simp; (first | have hAl := hAt.alloc (.cells #[.bool false, .string ⟨#[]⟩, .slice none 0 0] 28) | have hAl := hSp.alloc (.cells #[.bool false, .string ⟨#[]⟩, .slice none 0 0] 28) | have hAl := hE.drew.alloc (.cells #[.bool false, .string ⟨#[]⟩, .slice none 0 0] 28)))
              refine hK.out _ _ ⟨(atWm hAl (by repeat (first | exact List.Mem.head _ | refine List.Mem.tail _ ?_)) Tryd.isAgg28 Tryd.sizeOf28 rfl), ((f0.out _ (hAl.suf (by repeat (first | exact List.suffix_refl _ | refine List.IsSuffix.trans ?_ (List.suffix_cons _ _))))).2.1)⟩ (fun hS => ?_)
              clear hK K
              try simp only [Act.put, sb, s0, sz]
              refine wpAnyH_ready (rs := [7]) (by kernel_rfl) (by simp) ?_
              refine (AllReadyH.cons (o := { dst := some 66, op := Go.Op.call { callee := Go.Callee.value (Go.Operand.func 15), args := #[Go.Operand.tmp 59, Go.Operand.tmp 65], argTypes := #[28, 23] }, type := 30, pos := "law.go:111", after := #[{ on := 0, ground := Go.Ground.data }, { on := 6, ground := Go.Ground.data }, { on := 6, ground := Go.Ground.chain }], guard := none }) rfl (fun K hK => ?_) AllReadyH.nil)
              (go_simp; (first | have H := HA.out _ _ _ _ (by repeat (first | exact List.suffix_refl _ | refine List.IsSuffix.trans ?_ (List.suffix_cons _ _))) (hAl.front 1 rfl) | have H := HA.out _ _ _ _ (by repeat (first | exact List.suffix_refl _ | refine List.IsSuffix.trans ?_ (List.suffix_cons _ _))) hSp); refine H.mono ?_; clear H; rintro e w4 ⟨v, rfl, p, ap, cp, rfl, hri, hk6, hAt, hKp⟩)
              refine hK.out _ _ ⟨(atWm hAt (by repeat (first | exact List.Mem.head _ | refine List.Mem.tail _ ?_)) Tryd.isAgg28 Tryd.sizeOf28 rfl), ((f0.out _ (hAt.suf (by repeat (first | exact List.suffix_refl _ | refine List.IsSuffix.trans ?_ (List.suffix_cons _ _))))).2.1)⟩ (fun hS => ?_)
              clear hK K
              try simp only [Act.put, sb, s0, sz]
              refine takeW 8 ⟨some 58, .move (.tmp 66), 30, "law.go:111", #[⟨7, .data⟩], none⟩ ?_ (.inl ⟨by rfl, ?_⟩) hS ?_
              rotate_left
              · (intro w hSw; (try dsimp only at hSw); go_simp; (try with_reducible rfl))
              try simp only [Act.put, sb, s0, sz]
              refine takeW 9 ⟨some 67, .extract (.tmp 58) 0, 28, "law.go:111", #[⟨8, .data⟩], none⟩ ?_ (.inl ⟨by rfl, ?_⟩) hS ?_
              rotate_left
              · (intro w hSw; (try dsimp only at hSw); go_simp; (try with_reducible rfl))
              try simp only [Act.put, sb, s0, sz]
              refine takeW 10 ⟨some 68, .extract (.tmp 58) 1, 29, "law.go:111", #[⟨8, .data⟩, { on := 12, ground := Go.Ground.gcOnly Go.Departure.lateStores }], none⟩ ?_ (.inl ⟨by rfl, ?_⟩) hS ?_
              rotate_left
              · (intro w hSw; (try dsimp only at hSw); go_simp; (try with_reducible rfl))
              try simp only [Act.put, sb, s0, sz]
              refine wpAnyH_ready (rs := [12]) (by kernel_rfl) (by simp) ?_
              refine (AllReadyH.cons (o := { dst := none, op := Go.Op.store 28 (Go.Operand.tmp 9) (Go.Operand.tmp 67), type := 0, pos := "law.go:111", after := #[{ on := 11, ground := Go.Ground.data }, { on := 9, ground := Go.Ground.data }, { on := 7, ground := Go.Ground.chain }, { on := 0, ground := Go.Ground.phase }, { on := 1, ground := Go.Ground.phase }, { on := 2, ground := Go.Ground.phase }, { on := 3, ground := Go.Ground.phase }, { on := 4, ground := Go.Ground.phase }, { on := 5, ground := Go.Ground.phase }, { on := 6, ground := Go.Ground.phase }, { on := 7, ground := Go.Ground.phase }, { on := 8, ground := Go.Ground.phase }, { on := 9, ground := Go.Ground.phase }, { on := 10, ground := Go.Ground.textOnly Go.Departure.lateStores }, { on := 11, ground := Go.Ground.phase }], guard := none }) rfl (fun K hK => ?_) AllReadyH.nil)
              ((first | refine step_storeW hAl 0 rfl (by rfl) (by rfl) (by rfl) (xs := [.bool xd, .string ⟨xb.toArray⟩, .slice ap p.kids.length cp]) (by rfl) Tryd.sizeOf28 rfl (by simp [Value.oneCell']) rfl ?_ | refine step_storeW hAt 1 rfl (by rfl) (by rfl) (by rfl) (xs := [.bool xd, .string ⟨xb.toArray⟩, .slice ap p.kids.length cp]) (by rfl) Tryd.sizeOf28 rfl (by simp [Value.oneCell']) rfl ?_); intro w7 hEs; simp only [List.set_cons_zero, List.set_cons_succ] at hEs)
              refine hK.out _ _ ⟨(atWm hEs (by repeat (first | exact List.Mem.head _ | refine List.Mem.tail _ ?_)) Tryd.isAgg28 Tryd.sizeOf28 rfl), ((f0.out _ (hEs.suf (by repeat (first | exact List.suffix_refl _ | refine List.IsSuffix.trans ?_ (List.suffix_cons _ _))))).2.1)⟩ (fun hS => ?_)
              clear hK K
              try simp only [Act.put, sb, s0, sz]
              refine takeW 13 ⟨some 10, .assign (.tmp 68), 29, "law.go:111", #[⟨10, .data⟩, ⟨12, .chain⟩, ⟨0, .phase⟩, ⟨1, .phase⟩, ⟨2, .phase⟩, ⟨3, .phase⟩, ⟨4, .phase⟩, ⟨5, .phase⟩, ⟨6, .phase⟩, ⟨7, .phase⟩, ⟨8, .phase⟩, ⟨9, .phase⟩, ⟨10, .phase⟩, ⟨11, .phase⟩, ⟨12, .phase⟩], none⟩ ?_ (.inl ⟨by rfl, ?_⟩) hS ?_
              rotate_left
              · (intro w hSw; (try dsimp only at hSw); go_simp; (try with_reducible rfl))
              try simp only [Act.put, sb, s0, sz]
              refine wpAnyH_done (by kernel_rfl) ?_ _
          rotate_right
          focus
            (go_simp; (first | have hAl := hAt.alloc (.cells #[.bool false, .string ⟨#[]⟩, .slice none 0 0] 28) | have hAl := hSp.alloc (.cells #[.bool false, .string ⟨#[]⟩, .slice none 0 0] 28) | have hAl := hE.drew.alloc (.cells #[.bool false, .string ⟨#[]⟩, .slice none 0 0] 28)))
            refine hK.out _ _ ⟨(atWm hAl (by repeat (first | exact List.Mem.head _ | refine List.Mem.tail _ ?_)) Tryd.isAgg28 Tryd.sizeOf28 rfl), ((f0.out _ (hAl.suf (by repeat (first | exact List.suffix_refl _ | refine List.IsSuffix.trans ?_ (List.suffix_cons _ _))))).2.1)⟩ (fun hS => ?_)
            clear hK K
            try simp only [Act.put, sb, s0, sz]
            refine wpAnyH_ready (rs := [6]) (by kernel_rfl) (by simp) ?_
            refine (AllReadyH.cons (o := { dst := some 65, op := Go.Op.call { callee := Go.Callee.value (Go.Operand.func 19), args := #[Go.Operand.tmp 64], argTypes := #[9] }, type := 23, pos := "law.go:111", after := #[{ on := 5, ground := Go.Ground.data }], guard := none }) rfl (fun K hK => ?_) AllReadyH.nil)
            (go_simp; (first | have H := HS.out _ _ hAl | have H := HS.out _ _ hE.drew); refine H.mono ?_; clear H; rintro e w3 ⟨v, rfl, an, cn, rfl, hSp⟩)
            refine hK.out _ _ ⟨(atWm hSp (by repeat (first | exact List.Mem.head _ | refine List.Mem.tail _ ?_)) Tryd.isAgg28 Tryd.sizeOf28 rfl), ((f0.out _ (hSp.suf (by repeat (first | exact List.suffix_refl _ | refine List.IsSuffix.trans ?_ (List.suffix_cons _ _))))).2.1)⟩ (fun hS => ?_)
            clear hK K
            try simp only [Act.put, sb, s0, sz]
            refine wpAnyH_ready (rs := [7]) (by kernel_rfl) (by simp) ?_
            refine (AllReadyH.cons (o := { dst := some 66, op := Go.Op.call { callee := Go.Callee.value (Go.Operand.func 15), args := #[Go.Operand.tmp 59, Go.Operand.tmp 65], argTypes := #[28, 23] }, type := 30, pos := "law.go:111", after := #[{ on := 0, ground := Go.Ground.data }, { on := 6, ground := Go.Ground.data }, { on := 6, ground := Go.Ground.chain }], guard := none }) rfl (fun K hK => ?_) AllReadyH.nil)
            (go_simp; (first | have H := HA.out _ _ _ _ (by repeat (first | exact List.suffix_refl _ | refine List.IsSuffix.trans ?_ (List.suffix_cons _ _))) (hAl.front 1 rfl) | have H := HA.out _ _ _ _ (by repeat (first | exact List.suffix_refl _ | refine List.IsSuffix.trans ?_ (List.suffix_cons _ _))) hSp); refine H.mono ?_; clear H; rintro e w4 ⟨v, rfl, p, ap, cp, rfl, hri, hk6, hAt, hKp⟩)
            refine hK.out _ _ ⟨(atWm hAt (by repeat (first | exact List.Mem.head _ | refine List.Mem.tail _ ?_)) Tryd.isAgg28 Tryd.sizeOf28 rfl), ((f0.out _ (hAt.suf (by repeat (first | exact List.suffix_refl _ | refine List.IsSuffix.trans ?_ (List.suffix_cons _ _))))).2.1)⟩ (fun hS => ?_)
            clear hK K
            try simp only [Act.put, sb, s0, sz]
            refine takeW 8 ⟨some 58, .move (.tmp 66), 30, "law.go:111", #[⟨7, .data⟩], none⟩ ?_ (.inl ⟨by rfl, ?_⟩) hS ?_
            rotate_left
            · (intro w hSw; (try dsimp only at hSw); go_simp; (try with_reducible rfl))
            try simp only [Act.put, sb, s0, sz]
            refine takeW 9 ⟨some 67, .extract (.tmp 58) 0, 28, "law.go:111", #[⟨8, .data⟩], none⟩ ?_ (.inl ⟨by rfl, ?_⟩) hS ?_
            rotate_left
            · (intro w hSw; (try dsimp only at hSw); go_simp; (try with_reducible rfl))
            try simp only [Act.put, sb, s0, sz]
            refine takeW 10 ⟨some 68, .extract (.tmp 58) 1, 29, "law.go:111", #[⟨8, .data⟩, { on := 12, ground := Go.Ground.gcOnly Go.Departure.lateStores }], none⟩ ?_ (.inl ⟨by rfl, ?_⟩) hS ?_
            rotate_left
            · (intro w hSw; (try dsimp only at hSw); go_simp; (try with_reducible rfl))
            try simp only [Act.put, sb, s0, sz]
            refine wpAnyH_ready (rs := [12]) (by kernel_rfl) (by simp) ?_
            refine (AllReadyH.cons (o := { dst := none, op := Go.Op.store 28 (Go.Operand.tmp 9) (Go.Operand.tmp 67), type := 0, pos := "law.go:111", after := #[{ on := 11, ground := Go.Ground.data }, { on := 9, ground := Go.Ground.data }, { on := 7, ground := Go.Ground.chain }, { on := 0, ground := Go.Ground.phase }, { on := 1, ground := Go.Ground.phase }, { on := 2, ground := Go.Ground.phase }, { on := 3, ground := Go.Ground.phase }, { on := 4, ground := Go.Ground.phase }, { on := 5, ground := Go.Ground.phase }, { on := 6, ground := Go.Ground.phase }, { on := 7, ground := Go.Ground.phase }, { on := 8, ground := Go.Ground.phase }, { on := 9, ground := Go.Ground.phase }, { on := 10, ground := Go.Ground.textOnly Go.Departure.lateStores }, { on := 11, ground := Go.Ground.phase }], guard := none }) rfl (fun K hK => ?_) AllReadyH.nil)
            ((first | refine step_storeW hAl 0 rfl (by rfl) (by rfl) (by rfl) (xs := [.bool xd, .string ⟨xb.toArray⟩, .slice ap p.kids.length cp]) (by rfl) Tryd.sizeOf28 rfl (by simp [Value.oneCell']) rfl ?_ | refine step_storeW hAt 1 rfl (by rfl) (by rfl) (by rfl) (xs := [.bool xd, .string ⟨xb.toArray⟩, .slice ap p.kids.length cp]) (by rfl) Tryd.sizeOf28 rfl (by simp [Value.oneCell']) rfl ?_); intro w7 hEs; simp only [List.set_cons_zero, List.set_cons_succ] at hEs)
            refine hK.out _ _ ⟨(atWm hEs (by repeat (first | exact List.Mem.head _ | refine List.Mem.tail _ ?_)) Tryd.isAgg28 Tryd.sizeOf28 rfl), ((f0.out _ (hEs.suf (by repeat (first | exact List.suffix_refl _ | refine List.IsSuffix.trans ?_ (List.suffix_cons _ _))))).2.1)⟩ (fun hS => ?_)
            clear hK K
            try simp only [Act.put, sb, s0, sz]
            refine takeW 13 ⟨some 10, .assign (.tmp 68), 29, "law.go:111", #[⟨10, .data⟩, ⟨12, .chain⟩, ⟨0, .phase⟩, ⟨1, .phase⟩, ⟨2, .phase⟩, ⟨3, .phase⟩, ⟨4, .phase⟩, ⟨5, .phase⟩, ⟨6, .phase⟩, ⟨7, .phase⟩, ⟨8, .phase⟩, ⟨9, .phase⟩, ⟨10, .phase⟩, ⟨11, .phase⟩, ⟨12, .phase⟩], none⟩ ?_ (.inl ⟨by rfl, ?_⟩) hS ?_
            rotate_left
            · (intro w hSw; (try dsimp only at hSw); go_simp; (try with_reducible rfl))
            try simp only [Act.put, sb, s0, sz]
            refine wpAnyH_done (by kernel_rfl) ?_ _
          all_goals
            first
              | (replace hE : Ent (rowS an cn cs :: pt wr.heap.size (.cells #[.bool xd, .string ⟨xb.toArray⟩, .slice ap p.kids.length cp] 28) :: pt b3 (.cells #[.bool t.dir, .string ⟨t.data.toArray⟩, .slice a1 t.kids.length c1] 28) :: (m1 ++ l)) w7 := hEs; generalize wr.heap.size = g at *)
              | (replace hE : Ent (rowS an cn cs :: pt w3.heap.size (.cells #[.bool xd, .string ⟨xb.toArray⟩, .slice ap p.kids.length cp] 28) :: pt b3 (.cells #[.bool t.dir, .string ⟨t.data.toArray⟩, .slice a1 t.kids.length c1] 28) :: (m1 ++ l)) w7 := hEs; generalize w3.heap.size = g at *)
              | (replace hE : Ent (rowS an cn cs :: pt w4.heap.size (.cells #[.bool xd, .string ⟨xb.toArray⟩, .slice ap p.kids.length cp] 28) :: pt b3 (.cells #[.bool t.dir, .string ⟨t.data.toArray⟩, .slice a1 t.kids.length c1] 28) :: (m1 ++ l)) w7 := hEs.front 1 rfl; generalize w4.heap.size = g at *)
            clear hEs hS
            try clear hAl
            try clear hSp
            try clear hAt
            go_wp2
            refine wp_region_held_drew (S := (fun w' => ((Instr.loadAt 4 (.pointer (some ⟨g, 0, none⟩))).run Tryd.prog w' = .ok (.bool xd) w') ∧ ((Instr.loadAt 9 (.pointer (some ⟨g, 1, none⟩))).run Tryd.prog w' = .ok (.string ⟨xb.toArray⟩) w') ∧ ((Instr.loadAt 4 (.pointer (some ⟨b, off + k * 3 + 1, none⟩))).run Tryd.prog w' = .ok (.bool xd) w') ∧ ((Instr.loadAt 9 (.pointer (some ⟨b, off + k * 3 + 2, none⟩))).run Tryd.prog w' = .ok (.string ⟨xb.toArray⟩) w'))) (by kernel_rfl) ⟨(atVm hE.drew (by repeat (first | exact List.Mem.head _ | refine List.Mem.tail _ ?_)) (by simp [go_sem]) rfl), (atVm hE.drew (by repeat (first | exact List.Mem.head _ | refine List.Mem.tail _ ?_)) (by simp [go_sem]) rfl), ((f0.out _ (hE.drew.suf (by repeat (first | exact List.suffix_refl _ | refine List.IsSuffix.trans ?_ (List.suffix_cons _ _))))).2.2.1), ((f0.out _ (hE.drew.suf (by repeat (first | exact List.suffix_refl _ | refine List.IsSuffix.trans ?_ (List.suffix_cons _ _))))).2.2.2)⟩ (fun hS => ?_)
            refine takeW 0 ⟨some 69, .move (.tmp 10), 29, "law.go:112", #[], none⟩ ?_ (.inl ⟨by rfl, ?_⟩) hS ?_
            rotate_left
            · (intro w hSw; (try dsimp only at hSw); go_simp; (try with_reducible rfl))
            try simp only [Act.put, sb, s0, sz]
            refine takeW 1 ⟨some 70, .binOp .neq 29 (.tmp 69) (.const (.int .i64 0)) 29, 4, "law.go:112", #[⟨0, .data⟩], none⟩ ?_ (.inl ⟨by rfl, ?_⟩) hS ?_
            rotate_left
            · (intro w hSw; (try dsimp only at hSw); go_simp; (try with_reducible rfl))
            try simp only [Act.put, sb, s0, sz]
            refine takeW 2 ⟨some 71, .move (.tmp 70), 4, "law.go:112", #[⟨1, .data⟩], none⟩ ?_ (.inl ⟨by rfl, ?_⟩) hS ?_
            rotate_left
            · (intro w hSw; (try dsimp only at hSw); go_simp; (try with_reducible rfl))
            try simp only [Act.put, sb, s0, sz]
            refine takeW 3 ⟨some 72, .fieldAddr 28 (.tmp 9) 0, 0, "law.go:112", #[⟨2, .guard⟩], some (2, false)⟩ ?_ (.inl ⟨by rfl, ?_⟩) hS ?_
            rotate_left
            · (intro w hSw; (try dsimp only at hSw); go_simp; (try with_reducible rfl))
            try simp only [Act.put, sb, s0, sz]
            refine takeW 4 ⟨some 73, .load 4 (.tmp 72), 4, "law.go:112", #[⟨3, .data⟩, ⟨2, .guard⟩], some (2, false)⟩ ?_ (.inl ⟨by rfl, ?_⟩) hS ?_
            rotate_left
            · (intro w hSw; (try dsimp only at hSw); go_simp; (try with_reducible rfl))
            try simp only [Act.put, sb, s0, sz]
            refine takeW 5 ⟨some 74, .move (.tmp 0), 22, "law.go:112", #[⟨2, .guard⟩], some (2, false)⟩ ?_ (.inl ⟨by rfl, ?_⟩) hS ?_
            rotate_left
            · (intro w hSw; (try dsimp only at hSw); go_simp; (try with_reducible rfl))
            try simp only [Act.put, sb, s0, sz]
            refine takeW 6 ⟨some 75, .move (.tmp 8), 3, "law.go:112", #[⟨2, .guard⟩], some (2, false)⟩ ?_ (.inl ⟨by rfl, ?_⟩) hS ?_
            rotate_left
            · (intro w hSw; (try dsimp only at hSw); go_simp; (try with_reducible rfl))
            try simp only [Act.put, sb, s0, sz]
            refine takeW 7 ⟨some 76, .indexAddr 22 (.tmp 74) (.tmp 75), 0, "law.go:112", #[⟨5, .data⟩, ⟨6, .data⟩, ⟨2, .guard⟩], some (2, false)⟩ ?_ (.inl ⟨by rfl, ?_⟩) hS ?_
            rotate_left
            · (intro w hSw; (try dsimp only at hSw); go_simp; (try with_reducible rfl))
            try simp only [Act.put, sb, s0, sz]
            refine takeW 8 ⟨some 77, .fieldAddr 41 (.tmp 76) 1, 0, "law.go:112", #[⟨7, .data⟩, ⟨2, .guard⟩], some (2, false)⟩ ?_ (.inl ⟨by rfl, ?_⟩) hS ?_
            rotate_left
            · (intro w hSw; (try dsimp only at hSw); go_simp; (try with_reducible rfl))
            try simp only [Act.put, sb, s0, sz]
            refine takeW 9 ⟨some 78, .load 4 (.tmp 77), 4, "law.go:112", #[⟨8, .data⟩, ⟨2, .guard⟩], some (2, false)⟩ ?_ (.inl ⟨by rfl, ?_⟩) hS ?_
            rotate_left
            · (intro w hSw; (try dsimp only at hSw); go_simp; (try with_reducible rfl))
            try simp only [Act.put, sb, s0, sz]
            refine takeW 10 ⟨some 79, .binOp .neq 4 (.tmp 73) (.tmp 78) 4, 4, "law.go:112", #[⟨4, .data⟩, ⟨9, .data⟩, ⟨2, .guard⟩], some (2, false)⟩ ?_ (.inl ⟨by rfl, ?_⟩) hS ?_
            rotate_left
            · (intro w hSw; (try dsimp only at hSw); go_simp; (try with_reducible rfl))
            try simp only [Act.put, sb, s0, sz]
            refine takeW 11 ⟨some 80, .pick (.tmp 71) (.const (.bool true)) (.tmp 79), 4, "law.go:112", #[⟨2, .data⟩, ⟨10, .data⟩], none⟩ ?_ (.inl ⟨by rfl, ?_⟩) hS ?_
            rotate_left
            · (intro w hSw; (try dsimp only at hSw); go_simp; (try with_reducible rfl))
            try simp only [Act.put, sb, s0, sz]
            refine takeW 12 ⟨some 81, .move (.tmp 80), 4, "law.go:112", #[⟨11, .data⟩, ⟨2, .chain⟩], none⟩ ?_ (.inl ⟨by rfl, ?_⟩) hS ?_
            rotate_left
            · (intro w hSw; (try dsimp only at hSw); go_simp; (try with_reducible rfl))
            try simp only [Act.put, sb, s0, sz]
            refine takeW 13 ⟨some 82, .fieldAddr 28 (.tmp 9) 1, 0, "law.go:112", #[⟨12, .guard⟩], some (12, false)⟩ ?_ (.inl ⟨by rfl, ?_⟩) hS ?_
            rotate_left
            · (intro w hSw; (try dsimp only at hSw); go_simp; (try with_reducible rfl))
            try simp only [Act.put, sb, s0, sz]
            refine takeW 14 ⟨some 83, .load 9 (.tmp 82), 9, "law.go:112", #[⟨13, .data⟩, ⟨12, .guard⟩], some (12, false)⟩ ?_ (.inl ⟨by rfl, ?_⟩) hS ?_
            rotate_left
            · (intro w hSw; (try dsimp only at hSw); go_simp; (try with_reducible rfl))
            try simp only [Act.put, sb, s0, sz]
            refine takeW 15 ⟨some 84, .move (.tmp 0), 22, "law.go:112", #[⟨12, .guard⟩], some (12, false)⟩ ?_ (.inl ⟨by rfl, ?_⟩) hS ?_
            rotate_left
            · (intro w hSw; (try dsimp only at hSw); go_simp; (try with_reducible rfl))
            try simp only [Act.put, sb, s0, sz]
            refine takeW 16 ⟨some 85, .move (.tmp 8), 3, "law.go:112", #[⟨12, .guard⟩], some (12, false)⟩ ?_ (.inl ⟨by rfl, ?_⟩) hS ?_
            rotate_left
            · (intro w hSw; (try dsimp only at hSw); go_simp; (try with_reducible rfl))
            try simp only [Act.put, sb, s0, sz]
            refine takeW 17 ⟨some 86, .indexAddr 22 (.tmp 84) (.tmp 85), 0, "law.go:112", #[⟨15, .data⟩, ⟨16, .data⟩, ⟨12, .guard⟩], some (12, false)⟩ ?_ (.inl ⟨by rfl, ?_⟩) hS ?_
            rotate_left
            · (intro w hSw; (try dsimp only at hSw); go_simp; (try with_reducible rfl))
            try simp only [Act.put, sb, s0, sz]
            refine takeW 18 ⟨some 87, .fieldAddr 41 (.tmp 86) 2, 0, "law.go:112", #[⟨17, .data⟩, ⟨12, .guard⟩], some (12, false)⟩ ?_ (.inl ⟨by rfl, ?_⟩) hS ?_
            rotate_left
            · (intro w hSw; (try dsimp only at hSw); go_simp; (try with_reducible rfl))
            try simp only [Act.put, sb, s0, sz]
            refine takeW 19 ⟨some 88, .load 9 (.tmp 87), 9, "law.go:112", #[⟨18, .data⟩, ⟨12, .guard⟩], some (12, false)⟩ ?_ (.inl ⟨by rfl, ?_⟩) hS ?_
            rotate_left
            · (intro w hSw; (try dsimp only at hSw); go_simp; (try with_reducible rfl))
            try simp only [Act.put, sb, s0, sz]
            refine takeW 20 ⟨some 89, .binOp .neq 9 (.tmp 83) (.tmp 88) 9, 4, "law.go:112", #[⟨14, .data⟩, ⟨19, .data⟩, ⟨12, .guard⟩], some (12, false)⟩ ?_ (.inl ⟨by rfl, ?_⟩) hS ?_
            rotate_left
            · (intro w hSw; (try dsimp only at hSw); go_simp; (try with_reducible rfl))
            try simp only [Act.put, sb, s0, sz]
            refine takeW 21 ⟨some 90, .pick (.tmp 81) (.const (.bool true)) (.tmp 89), 4, "law.go:112", #[⟨12, .data⟩, ⟨20, .data⟩], none⟩ ?_ (.inl ⟨by rfl, ?_⟩) hS ?_
            rotate_left
            · (intro w hSw; (try dsimp only at hSw); go_simp; (try with_reducible rfl))
            try simp only [Act.put, sb, s0, sz]
            refine wpAnyH_done (by kernel_rfl) ?_ _
            clear hS
            replace hE := hE.drew.tail
            obtain ⟨ks, hks⟩ : ∃ ks, p.kids = ks := ⟨_, rfl⟩
            have hri2 : Rising (ks.map Prod.fst) := by rw [← hks]; exact hri
            rw [hks] at hKp hk6 hE
            clear hri
            obtain ⟨aq, cq, vs, eq, hcq, hlq, hkq, hkr, hone⟩ := hKp.open
            cases eq
            clear hone hkr hcq hks
            have Hri := SL.hid hri2
            have Hlq := SL.hid hlq
            clear hri2 hlq
            go_wp2
            go_loopw [11] (fun i wr => InRel ks.length (pt g (.cells #[.bool xd, .string ⟨xb.toArray⟩, .slice ap ks.length cp] 28) :: pt b3 (.cells #[.bool t.dir, .string ⟨t.data.toArray⟩, .slice a1 t.kids.length c1] 28) :: (m1 ++ l)) i wr) (fun i _ => ks.length + 1 - (intOf i).toNat)
            case atStart => exact ⟨1, Nat.le_refl _, by omega, rfl, hE⟩
            case round =>
              clear hE
              obtain ⟨j, hj1, hjn, rfl, hE⟩ := hrel
              by_cases hj : j < ks.length
              · obtain ⟨i, hi⟩ : ∃ i, i + 1 = j := ⟨j - 1, by omega⟩
                obtain ⟨bk, ok, e1, hz⟩ := kids_at Hlq.out (hkq _ hE.tail.tail) hj
                clear hz
                subst e1
                have hwj : wrap64 ((j : Int) - 1) = (i : Int) := by unfold wrap64; omega
                have hwj2 : IntKind.i64.wrap ((j : Int) - 1) = (i : Int) := by
                  simp only [IntKind.wrap, IntKind.bits, IntKind.signed]
                  simp
                  omega
                have hil : i < ks.length := by omega
                have hii : (i : Int) < (ks.length : Int) := by omega
                have hjj : (j : Int) < (ks.length : Int) := by omega
                have g1 := SL.hid (show ∀ w, Ent (m1 ++ l) w → w.cell? ⟨bk, ok + i * 4, none⟩ = some (.string ⟨(ks[i]).1.toArray⟩) from fun w h => by
                  obtain ⟨b', o', e, h⟩ := kids_at Hlq.out (hkq _ h) hil
                  cases e
                  exact h 0 _ rfl)
                have g2 := SL.hid (show ∀ w, Ent (m1 ++ l) w → w.cell? ⟨bk, ok + j * 4, none⟩ = some (.string ⟨(ks[j]).1.toArray⟩) from fun w h => by
                  obtain ⟨b', o', e, h⟩ := kids_at Hlq.out (hkq _ h) hj
                  cases e
                  exact h 0 _ rfl)
                have hlt2 : Op.bytesLess (ks[i]).1 (ks[j]).1 = true := by
                  have := Hri.out.of (i := i) (j := j) (by omega) (by simpa using hj)
                  simpa using this
                generalize (ks[i]).1 = n1 at *
                generalize (ks[j]).1 = n2 at *
                clear hi
                go_wp2_with (first | go_skip | ((with_reducible (show Go.wpList _ _ _ (Go.Oper.mk _ (.load _ _) _ _ _ _ :: _) _ _)); refine wpl_load1 hE 0 rfl rfl rfl rfl (by simp [go_sem]) rfl ?_))
                refine wp_region_held_drew (S := (fun w' => ((Instr.loadAt 26 (.pointer (some ⟨g, 2, none⟩))).run Tryd.prog w' = .ok (.slice (some ⟨bk, ok, none⟩) ks.length cp) w') ∧ ((Instr.loadAt 9 (.pointer (some ⟨bk, ok + i * 4, none⟩))).run Tryd.prog w' = .ok (.string ⟨n1.toArray⟩) w') ∧ ((Instr.loadAt 9 (.pointer (some ⟨bk, ok + j * 4, none⟩))).run Tryd.prog w' = .ok (.string ⟨n2.toArray⟩) w'))) (by kernel_rfl) ⟨(atVm hE.drew (by repeat (first | exact List.Mem.head _ | refine List.Mem.tail _ ?_)) (by simp [go_sem]) rfl), (atCell (g1.out _ (hE.drew.suf (by repeat (first | exact List.suffix_refl _ | refine List.IsSuffix.trans ?_ (List.suffix_cons _ _))))) (by simp [go_sem])), (atCell (g2.out _ (hE.drew.suf (by repeat (first | exact List.suffix_refl _ | refine List.IsSuffix.trans ?_ (List.suffix_cons _ _))))) (by simp [go_sem]))⟩ (fun hS => ?_)
                refine takeW 0 ⟨some 98, .fieldAddr 28 (.tmp 9) 2, 0, "law.go:116", #[], none⟩ ?_ (.inl ⟨by rfl, ?_⟩) hS ?_
                rotate_left
                · (intro w hSw; (try dsimp only at hSw); go_simp; (try with_reducible rfl))
                try simp only [Act.put, sb, s0, sz]
                refine takeW 1 ⟨some 99, .load 26 (.tmp 98), 26, "law.go:116", #[⟨0, .data⟩], none⟩ ?_ (.inl ⟨by rfl, ?_⟩) hS ?_
                rotate_left
                · (intro w hSw; (try dsimp only at hSw); go_simp; (try with_reducible rfl))
                try simp only [Act.put, sb, s0, sz]
                refine takeW 2 ⟨some 100, .move (.tmp 11), 3, "law.go:116", #[], none⟩ ?_ (.inl ⟨by rfl, ?_⟩) hS ?_
                rotate_left
                · (intro w hSw; (try dsimp only at hSw); go_simp; (try with_reducible rfl))
                try simp only [Act.put, sb, s0, sz]
                refine takeW 3 ⟨some 101, .binOp .sub 3 (.tmp 100) (.const (.int .i64 1)) 3, 3, "law.go:116", #[⟨2, .data⟩], none⟩ ?_ (.inl ⟨by rfl, ?_⟩) hS ?_
                rotate_left
                · (intro w hSw; (try dsimp only at hSw); go_simp; (try with_reducible rfl))
                try simp only [Act.put, sb, s0, sz]
                refine takeW 4 ⟨some 102, .indexAddr 26 (.tmp 99) (.tmp 101), 0, "law.go:116", #[⟨1, .data⟩, ⟨3, .data⟩], none⟩ ?_ (.inl ⟨by rfl, ?_⟩) hS ?_
                rotate_left
                · (intro w hSw; (try dsimp only at hSw); go_simp; (try with_reducible rfl))
                try simp only [Act.put, sb, s0, sz]
                refine takeW 5 ⟨some 103, .fieldAddr 51 (.tmp 102) 0, 0, "law.go:116", #[⟨4, .data⟩], none⟩ ?_ (.inl ⟨by rfl, ?_⟩) hS ?_
                rotate_left
                · (intro w hSw; (try dsimp only at hSw); go_simp; (try with_reducible rfl))
                try simp only [Act.put, sb, s0, sz]
                refine takeW 6 ⟨some 104, .load 9 (.tmp 103), 9, "law.go:116", #[⟨5, .data⟩], none⟩ ?_ (.inl ⟨by rfl, ?_⟩) hS ?_
                rotate_left
                · (intro w hSw; (try dsimp only at hSw); go_simp; (try with_reducible rfl))
                try simp only [Act.put, sb, s0, sz]
                refine takeW 7 ⟨some 105, .fieldAddr 28 (.tmp 9) 2, 0, "law.go:116", #[], none⟩ ?_ (.inl ⟨by rfl, ?_⟩) hS ?_
                rotate_left
                · (intro w hSw; (try dsimp only at hSw); go_simp; (try with_reducible rfl))
                try simp only [Act.put, sb, s0, sz]
                refine takeW 8 ⟨some 106, .load 26 (.tmp 105), 26, "law.go:116", #[⟨7, .data⟩], none⟩ ?_ (.inl ⟨by rfl, ?_⟩) hS ?_
                rotate_left
                · (intro w hSw; (try dsimp only at hSw); go_simp; (try with_reducible rfl))
                try simp only [Act.put, sb, s0, sz]
                refine takeW 9 ⟨some 107, .move (.tmp 11), 3, "law.go:116", #[], none⟩ ?_ (.inl ⟨by rfl, ?_⟩) hS ?_
                rotate_left
                · (intro w hSw; (try dsimp only at hSw); go_simp; (try with_reducible rfl))
                try simp only [Act.put, sb, s0, sz]
                refine takeW 10 ⟨some 108, .indexAddr 26 (.tmp 106) (.tmp 107), 0, "law.go:116", #[⟨8, .data⟩, ⟨9, .data⟩], none⟩ ?_ (.inl ⟨by rfl, ?_⟩) hS ?_
                rotate_left
                · (intro w hSw; (try dsimp only at hSw); go_simp; (try with_reducible rfl))
                try simp only [Act.put, sb, s0, sz]
                refine takeW 11 ⟨some 109, .fieldAddr 51 (.tmp 108) 0, 0, "law.go:116", #[⟨10, .data⟩], none⟩ ?_ (.inl ⟨by rfl, ?_⟩) hS ?_
                rotate_left
                · (intro w hSw; (try dsimp only at hSw); go_simp; (try with_reducible rfl))
                try simp only [Act.put, sb, s0, sz]
                refine takeW 12 ⟨some 110, .load 9 (.tmp 109), 9, "law.go:116", #[⟨11, .data⟩], none⟩ ?_ (.inl ⟨by rfl, ?_⟩) hS ?_
                rotate_left
                · (intro w hSw; (try dsimp only at hSw); go_simp; (try with_reducible rfl))
                try simp only [Act.put, sb, s0, sz]
                refine takeW 13 ⟨some 111, .binOp .geq 9 (.tmp 104) (.tmp 110) 9, 4, "law.go:116", #[⟨6, .data⟩, ⟨12, .data⟩], none⟩ ?_ (.inl ⟨by rfl, ?_⟩) hS ?_
                rotate_left
                · (intro w hSw; (try dsimp only at hSw); go_simp; (try with_reducible rfl))
                try simp only [Act.put, sb, s0, sz]
                refine wpAnyH_done (by kernel_rfl) ?_ _
                go_wp2
                go_roundw
                case rel => exact ⟨j + 1, by omega, by omega, by first | rfl | simp, hE.drew⟩
                case measure => simp [intOf] <;> omega
              · go_wp2_with (first | go_skip | ((with_reducible (show Go.wpList _ _ _ (Go.Oper.mk _ (.load _ _) _ _ _ _ :: _) _ _)); refine wpl_load1 hE 0 rfl rfl rfl rfl (by simp [go_sem]) rfl ?_))
                refine ⟨⟨k + 1, hlt, by first | rfl | simp, hE.tail⟩, ?_⟩
                simp [intOf] <;> omega
        · obtain rfl : k = es.length := by omega
          go_wp2_with (first
            | go_skip
            | (go_at_call 9; refine (HWk.out _ _ hE).mono ?_; clear hE; rintro e w3 ⟨v, rfl, rfl, hE⟩))
          go_ret
          exact ⟨_, rfl, rfl, hE.tail.drop⟩
end Go.Proofs.YtjmllpgmbaoebaaDoor
namespace Go.Proofs.YtjmllpgmbaoebaaDoor
open Go.RowKit Go.SL Go.ChangeShapes Go.WideShapes Go.Deep

set_option maxRecDepth 100000 in
theorem open_ens {H : Type} {enc : TypeId × Value → H} {w : World} {held : Bool} {r : Reach} {b0 : Nat} {v : Value} {d : DataW H} {ps : List MemPlace}
    (hval : Value.okWide Tryd.prog w r b0 22 v) (h : DataW.Trod enc Tryd.prog w 0 (fun _ => true) held 22 v d ps) :
    ∃ (ao : Option Addr) (c : Nat) (xs : List En), v = .slice ao xs.length c ∧ xs.length ≤ c ∧ c ≤ maxLen ∧ (∀ x ∈ xs, True) ∧ reads v xs.length (xs.flatMap enC) w :=
  open_row Tryd.underlying22 enC (fun _ => True) enC_len (by omega) (by kernel_rfl) hval h (fun m cs y hl hy => by
    obtain ⟨ys, n, _, _, _, hyl, hg⟩ := DataW.trod_struct Tryd.underlying41 hy
    match cs, hl with
    | [c0, c1, c2], _ =>
      have g0 := hg 0 _ rfl
      have g1 := hg 1 _ rfl
      have g2 := hg 2 _ rfl
      match ys, hyl with
      | [y0, y1, y2], _ =>
        obtain ⟨a, q0, _, _⟩ := DataW.trod_string Tryd.underlying9 (show DataW.trod enc Tryd.prog w 0 (fun _ => true) held n 9 [c0] = some y0 from g0)
        obtain ⟨b, q1, _⟩ := DataW.trod_bool Tryd.underlying4 (show DataW.trod enc Tryd.prog w 0 (fun _ => true) held n 4 [c1] = some y1 from g1)
        obtain ⟨c, q2, _, _⟩ := DataW.trod_string Tryd.underlying9 (show DataW.trod enc Tryd.prog w 0 (fun _ => true) held n 9 [c2] = some y2 from g2)
        simp only [List.cons.injEq, and_true] at q0 q1 q2
        subst q0 q1 q2
        exact ⟨⟨a.data.toList, b, c.data.toList⟩, trivial, rfl⟩)
end Go.Proofs.YtjmllpgmbaoebaaDoor
namespace Go.Proofs.YtjmllpgmbaoebaaDoor
open Go.RowKit Go.SL Go.ChangeShapes Go.WideShapes Go.Deep

set_option maxRecDepth 100000 in
theorem open_texts {H : Type} {enc : TypeId × Value → H} {w : World} {held : Bool} {r : Reach} {b0 : Nat} {v : Value} {d : DataW H} {ps : List MemPlace} (hval : Value.okWide Tryd.prog w r b0 23 v) (h : DataW.Trod enc Tryd.prog w 0 (fun _ => true) held 23 v d ps) :
    ∃ (ao : Option Addr) (c : Nat) (xs : List (List UInt8)), v = .slice ao xs.length c ∧ xs.length ≤ c ∧ c ≤ maxLen ∧ (∀ x ∈ xs, (fun _ => True) x) ∧ reads v xs.length (xs.map strv) w := by
  obtain ⟨ao, c, xs, h1, h2, h3, h4, h5⟩ := open_row Tryd.underlying23 (fun x : List UInt8 => [strv x]) (fun _ => True) (k := 1) (fun _ => rfl) (by omega) (by kernel_rfl) hval h (fun m cs y hl hy => by
    obtain ⟨s, e0, _, _⟩ := DataW.trod_string Tryd.underlying9 hy
    subst e0
    exact ⟨s.data.toList, trivial, rfl⟩)
  refine ⟨ao, c, xs, h1, h2, h3, h4, ?_⟩
  have e : ∀ l : List (List UInt8), l.flatMap (fun x => [strv x]) = l.map strv := by
    intro l
    induction l with
    | nil => rfl
    | cons x l ih => simp [List.flatMap_cons, ih]
  rwa [e] at h5
end Go.Proofs.YtjmllpgmbaoebaaDoor
