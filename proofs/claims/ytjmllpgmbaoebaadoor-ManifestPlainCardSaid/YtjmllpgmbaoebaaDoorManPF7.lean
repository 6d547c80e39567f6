/-
  The document's At. Printed by gen_ta9.py.
-/
import Derived.Test.YtjmllpgmbaoebaaDoorManPF6
import Derived.WalkMore
namespace Go.Proofs.YtjmllpgmbaoebaaDoor
open Go.RowKit Go.SL

set_option maxRecDepth 100000 in
set_option maxHeartbeats 16000000 in
attribute [-go_sem] Instr.loadAt in
theorem rAt_any {t : Tr} {L : List En} (hG : Good t L) (hL : L.length ≤ 1000) (hb : ∀ x ∈ L, x.path.length ≤ 1000000) {q : List (List UInt8)} (hq : q.length ≤ 1000) (hx : ∀ x ∈ q, x.length ≤ 600) {an : Option Addr} {cn : Nat} (hqc : q.length ≤ cn) {ao : Option Addr} {c : Nat} {l : List HProp} {w : World}
    (hn : Knows l (reads (.slice an q.length cn) q.length (q.map strv))) (hk : Knows l (reads (.slice ao L.length c) L.length (L.flatMap enC))) (hE : Ent l w) :
    Calls Tryd.prog 16 #[.agg #[.slice ao L.length c], .slice an q.length cn] w (Ret (rAtPost q t l)) := by
  have Tok := SL.hid True.intro
  have Hd := SL.hid hG.2.2
  go_enter Tryd.func16, Tryd.ntmps16
  go_wp2_with (first
    | go_skip
    | ((with_reducible (show Go.wpList _ _ _ (Go.Oper.mk _ (.box _ _) _ _ _ _ :: _) _ _)); refine wpl_box hE rfl rfl rfl ?_; clear hE; intro b2 w hE; simp only [Act.eval, Act.put, List.setIfInBounds_toArray, List.set_cons_zero, List.set_cons_succ, getD_lit, List.getD_cons_succ, List.getD_cons_zero, Value.cells] at hE)
    | ((with_reducible (show Go.wpList _ _ _ (Go.Oper.mk _ (.alloc _) _ _ _ _ :: _) _ _)); clear Tok; ((with_reducible (show Go.wpList _ _ _ (Go.Oper.mk _ (.alloc _) _ _ _ _ :: _) _ _)); refine wpl_alloc hE rfl rfl (by simp [go_sem]; rfl) ?_; clear hE; intro b4 w hE; simp only [Act.eval, Act.put, List.setIfInBounds_toArray, List.set_cons_zero, List.set_cons_succ, getD_lit, List.getD_cons_succ, List.getD_cons_zero, Value.cells] at hE))
    | ((with_reducible (show Go.wpList _ _ _ (Go.Oper.mk _ (.alloc _) _ _ _ _ :: _) _ _)); refine wpl_alloc hE rfl rfl (by simp [go_sem]; rfl) ?_; clear hE; intro b6 w hE; simp only [Act.eval, Act.put, List.setIfInBounds_toArray, List.set_cons_zero, List.set_cons_succ, getD_lit, List.getD_cons_succ, List.getD_cons_zero, Value.cells] at hE)
    | ((with_reducible (show Go.wpList _ _ _ (Go.Oper.mk _ (.store 41 _ _) _ _ _ _ :: _) _ _)); refine wpl_storeW hE 0 rfl rfl rfl (xs := [.string ⟨#[]⟩, .bool true, .string ⟨#[]⟩]) rfl rfl Tryd.sizeOf41 rfl (by simp [Value.oneCell']) rfl ?_; clear hE; intro w8 hE; simp only [List.set_cons_zero] at hE))
  go_loopw [7] (fun i wr => rAtRel q t b6 (pt b4 (.cells #[.string ⟨#[]⟩, .bool false, .string ⟨#[]⟩] 41) :: pt b2 (.cells #[.slice ao L.length c] 33) :: l) i wr) (fun i _ => q.length - (intOf i).toNat)
  case atStart => exact ⟨0, t, Nat.zero_le _, rfl, rfl, rfl, by rw [Hd.out.1, Hd.out.2]; exact hE⟩
  case round =>
    clear hE
    obtain ⟨k, p, hkn, rfl, hg, hB, hE⟩ := hrel
    obtain ⟨px, hpx⟩ : ∃ x, joinP (q.take k) = x := ⟨_, rfl⟩
    rw [hpx] at hE
    by_cases hlt : k < q.length
    · have hdk : q.drop k = q[k] :: q.drop (k + 1) := List.drop_eq_getElem_cons hlt
      rw [hdk, atT] at hB
      have htk := List.take_succ_eq_append_getElem hlt
      cases hpd : p.dir with
      | false =>
        have HT := SL.hid (show atT 11 10 q t = (11, .zero) from by rw [hB, hpd]; rfl)
        rw [hpd] at hE
        generalize p.data = pb at *
        clear hB hpd hg hpx hdk htk
        go_wp2_with (first
          | go_skip
          | ((with_reducible (show Go.wpList _ _ _ (Go.Oper.mk _ (.load _ _) _ _ _ _ :: _) _ _)); (first | (refine wpl_load1 hE 0 rfl rfl rfl rfl (by simp [go_sem]) rfl ?_) | (refine wpl_load1 hE 1 rfl rfl rfl rfl (by simp [go_sem]) rfl ?_) | (refine wpl_load1 hE 2 rfl rfl rfl rfl (by simp [go_sem]) rfl ?_) | (refine wpl_load1 hE 3 rfl rfl rfl rfl (by simp [go_sem]) rfl ?_) | (refine wpl_load1 hE 4 rfl rfl rfl rfl (by simp [go_sem]) rfl ?_) | (refine wpl_load1 hE 5 rfl rfl rfl rfl (by simp [go_sem]) rfl ?_) | (refine wpl_load1 hE 6 rfl rfl rfl rfl (by simp [go_sem]) rfl ?_) | (refine wpl_load1 hE 7 rfl rfl rfl rfl (by simp [go_sem]) rfl ?_)))
          | ((with_reducible (show Go.wpList _ _ _ (Go.Oper.mk _ (.store 41 _ _) _ _ _ _ :: _) _ _)); (first | (refine wpl_storeW hE 0 rfl rfl rfl (xs := [.string ⟨#[]⟩, .bool false, .string ⟨#[]⟩]) rfl rfl Tryd.sizeOf41 rfl (by simp [Value.oneCell']) rfl ?_) | (refine wpl_storeW hE 1 rfl rfl rfl (xs := [.string ⟨#[]⟩, .bool false, .string ⟨#[]⟩]) rfl rfl Tryd.sizeOf41 rfl (by simp [Value.oneCell']) rfl ?_) | (refine wpl_storeW hE 2 rfl rfl rfl (xs := [.string ⟨#[]⟩, .bool false, .string ⟨#[]⟩]) rfl rfl Tryd.sizeOf41 rfl (by simp [Value.oneCell']) rfl ?_) | (refine wpl_storeW hE 3 rfl rfl rfl (xs := [.string ⟨#[]⟩, .bool false, .string ⟨#[]⟩]) rfl rfl Tryd.sizeOf41 rfl (by simp [Value.oneCell']) rfl ?_) | (refine wpl_storeW hE 4 rfl rfl rfl (xs := [.string ⟨#[]⟩, .bool false, .string ⟨#[]⟩]) rfl rfl Tryd.sizeOf41 rfl (by simp [Value.oneCell']) rfl ?_) | (refine wpl_storeW hE 5 rfl rfl rfl (xs := [.string ⟨#[]⟩, .bool false, .string ⟨#[]⟩]) rfl rfl Tryd.sizeOf41 rfl (by simp [Value.oneCell']) rfl ?_) | (refine wpl_storeW hE 6 rfl rfl rfl (xs := [.string ⟨#[]⟩, .bool false, .string ⟨#[]⟩]) rfl rfl Tryd.sizeOf41 rfl (by simp [Value.oneCell']) rfl ?_) | (refine wpl_storeW hE 7 rfl rfl rfl (xs := [.string ⟨#[]⟩, .bool false, .string ⟨#[]⟩]) rfl rfl Tryd.sizeOf41 rfl (by simp [Value.oneCell']) rfl ?_)); clear hE; intro w hE; simp only [List.set_cons_zero, List.set_cons_succ] at hE))
        refine bodyPost_ret (results_cell2 rfl hE 1 rfl rfl Tryd.isAgg41 Tryd.sizeOf41 rfl rfl) rfl ?_
        exact ⟨_, rfl, [_, _, _], by rw [HT.out]; rfl, hE⟩
      | true =>
        have hB2 : atT 11 10 q t = (match p.kid? q[k] with | none => (10, .zero) | some k' => atT 11 10 (q.drop (k + 1)) k') := by rw [hB, hpd]; rfl
        have HG2 := SL.hid (fun (k' : Tr) (h : p.kid? q[k] = some k') => show Tr.get? (q.take (k + 1)) t = some k' from by rw [htk, get_snoc hg, h])
        have HF := SL.hid (fun (hnm : isName q[k] = true) (v : Value) (h : Found L (kidsI L (joinP (q.take k))) (joinP (q.take k ++ [q[k]])) true (kidsI L (joinP (q.take k))).length v) => found_kid hG hg hnm h)
        have HNo := SL.hid (show isName q[k] = false → p.kid? q[k] = none from fun h => by
          obtain ⟨e, he⟩ := wf_get hG.2.1 hg
          cases hkk : p.kid? q[k] with
          | none => rfl
          | some k' => rw [kid_name he hkk] at h; cases h)
        have HB2 := SL.hid hB2
        have HKi := SL.hid (fun (L2 : List HProp) (w : World) (hs : l <:+ L2) (h : Ent L2 w) => kids_any (by omega) hb (joinP (q.take k)) (hk.suf hs) h)
        have HKb := SL.hid (fun (j : Nat) (h : j < (kidsI L (joinP (q.take k))).length) => show (kidsI L (joinP (q.take k)))[j] < L.length from kidsI_lt (List.getElem_mem h))
        have hkil := kidsI_le L (joinP (q.take k))
        rw [← htk] at HF
        rw [hpd] at hE
        obtain ⟨bn, on, rfl, hz⟩ := reads_form (hn _ hE.tail.tail.tail) (by omega) (by rw [List.length_map]; omega)
        clear hz
        have Nn := SL.hid (show ∀ w, Ent l w → (Instr.loadAt 9 (.pointer (some ⟨bn, on + k, none⟩))).run Tryd.prog w = .ok (.string ⟨q[k].toArray⟩) w from fun w h => atCell (str_cells (hn _ h) hlt) (by simp [go_sem]))
        have HN1 := SL.hid (show ∀ w, Ent l w → reads (.slice (some ⟨bn, on, none⟩) (k + 1) cn) (k + 1) ((q.map strv).take ((k + 1) * 1)) w from fun w h => reads_first (hn _ h) (by omega))
        have HN2 := SL.hid (show ((q.map strv).take ((k + 1) * 1)).length = (k + 1) * 1 from by rw [List.length_take, List.length_map]; omega)
        have HN3 := SL.hid (show ∀ u ∈ (q.map strv).take ((k + 1) * 1), u.oneCell' = true from fun u hu => by
          obtain ⟨s, _, rfl⟩ := List.mem_map.1 (List.mem_of_mem_take hu)
          rfl)
        have HJ := SL.hid (show ∀ (a : Option Addr) (c' : Nat) (L2 : List HProp) (w : World), Ent (row 9 1 (.slice a (k + 1) c') (k + 1) ((q.map strv).take ((k + 1) * 1)) :: L2) w → Calls Tryd.prog 37 #[.slice a (k + 1) c'] w (Ret fun v w' => v = .string ⟨(joinP (q.take (k + 1))).toArray⟩ ∧ Ent (row 9 1 (.slice a (k + 1) c') (k + 1) ((q.map strv).take ((k + 1) * 1)) :: L2) w') from fun a c' L2 w h => by
          have e1 : (q.take (k + 1)).length = k + 1 := by rw [List.length_take]; omega
          have e2 : (q.map strv).take ((k + 1) * 1) = (q.take (k + 1)).map strv := by rw [Nat.mul_one, List.map_take]
          rw [e2] at h ⊢
          have h9 := rJoin_any (xs := q.take (k + 1)) (by omega) (fun x h => hx x (List.mem_of_mem_take h)) (ao := a) (c := c') (l := rowS a c' (q.take (k + 1)) :: L2) (w := w) (by simp only [rowS, e1]; exact h) (fun w h => reads_row h 0 rfl)
          simp only [rowS, e1] at h9
          exact h9)
        have hnl : q[k].length ≤ 600 := hx _ (List.getElem_mem hlt)
        have HNa := SL.hid (fun w => rName_any q[k] (by omega) w)
        obtain ⟨tgt, htgt⟩ : ∃ x, joinP (q.take (k + 1)) = x := ⟨_, rfl⟩
        have Htgt := SL.hid htgt
        rw [htgt] at HF HJ
        rw [hpx] at HF HKi HKb hkil
        clear hB hB2 hpd hg hpx hdk htk htgt hnl hb hx
        generalize kidsI L px = ki at *
        generalize p.data = pb at *
        generalize q[k] = nm at *
        generalize (q.map strv).take ((k + 1) * 1) = news at *
        go_wp2_with (first
          | go_skip
          | ((with_reducible (show Go.wpList _ _ _ (Go.Oper.mk _ (.load 33 _) _ _ _ _ :: _) _ _)); (first | (refine wpl_loadW hE 0 rfl rfl rfl rfl Tryd.isAgg33 Tryd.sizeOf33 rfl ?_) | (refine wpl_loadW hE 1 rfl rfl rfl rfl Tryd.isAgg33 Tryd.sizeOf33 rfl ?_) | (refine wpl_loadW hE 2 rfl rfl rfl rfl Tryd.isAgg33 Tryd.sizeOf33 rfl ?_) | (refine wpl_loadW hE 3 rfl rfl rfl rfl Tryd.isAgg33 Tryd.sizeOf33 rfl ?_) | (refine wpl_loadW hE 4 rfl rfl rfl rfl Tryd.isAgg33 Tryd.sizeOf33 rfl ?_) | (refine wpl_loadW hE 5 rfl rfl rfl rfl Tryd.isAgg33 Tryd.sizeOf33 rfl ?_) | (refine wpl_loadW hE 6 rfl rfl rfl rfl Tryd.isAgg33 Tryd.sizeOf33 rfl ?_) | (refine wpl_loadW hE 7 rfl rfl rfl rfl Tryd.isAgg33 Tryd.sizeOf33 rfl ?_)))
          | ((with_reducible (show Go.wpList _ _ _ (Go.Oper.mk _ (.load _ _) _ _ _ _ :: _) _ _)); (first | (refine wpl_load1 hE 0 rfl rfl rfl rfl (by simp [go_sem]) rfl ?_) | (refine wpl_load1 hE 1 rfl rfl rfl rfl (by simp [go_sem]) rfl ?_) | (refine wpl_load1 hE 2 rfl rfl rfl rfl (by simp [go_sem]) rfl ?_) | (refine wpl_load1 hE 3 rfl rfl rfl rfl (by simp [go_sem]) rfl ?_) | (refine wpl_load1 hE 4 rfl rfl rfl rfl (by simp [go_sem]) rfl ?_) | (refine wpl_load1 hE 5 rfl rfl rfl rfl (by simp [go_sem]) rfl ?_) | (refine wpl_load1 hE 6 rfl rfl rfl rfl (by simp [go_sem]) rfl ?_) | (refine wpl_load1 hE 7 rfl rfl rfl rfl (by simp [go_sem]) rfl ?_)))
          | (go_at_call 36; refine (HKi.out _ _ (by repeat (first | exact List.suffix_refl _ | refine List.IsSuffix.trans ?_ (List.suffix_cons _ _))) hE).mono ?_; clear hE; rintro e w3 ⟨v, rfl, ka, kc, rfl, hE⟩))
        have hmn : ((⟨nm.toArray⟩ : ByteArray) != ⟨#[]⟩) = !(nm == []) := by rw [bne, mkb]
        go_loopw [8, 10] (fun v i wr => FoRel L ki tgt (!(nm == [])) (rowN ka kc ki :: pt b6 (.cells #[.string ⟨px.toArray⟩, .bool true, .string ⟨pb.toArray⟩] 41) :: pt b4 (.cells #[.string ⟨#[]⟩, .bool false, .string ⟨#[]⟩] 41) :: pt b2 (.cells #[.slice ao L.length c] 33) :: l) v i wr) (fun _ i _ => ki.length - (intOf i).toNat)
        case atStart => exact ⟨0, Nat.zero_le _, rfl, Found.start, hE⟩
        case round =>
          clear hE
          obtain ⟨j, hjn, rfl, hfo, hE⟩ := hrel
          by_cases hj : j < ki.length
          · obtain ⟨gk, rfl, _, _⟩ := hE.rowIs 0 rfl (by omega)
            have hLk := HKb.out j hj
            obtain ⟨b, off, rfl, hz⟩ := en_at (hk _ hE.tail.tail.tail.tail) (show 0 < L.length by omega)
            clear hz
            have nj := show ∀ w, Ent (rowN (some ⟨gk, 0, none⟩) kc ki :: pt b6 (.cells #[.string ⟨px.toArray⟩, .bool true, .string ⟨pb.toArray⟩] 41) :: pt b4 (.cells #[.string ⟨#[]⟩, .bool false, .string ⟨#[]⟩] 41) :: pt b2 (.cells #[.slice (some ⟨b, off, none⟩) L.length c] 33) :: l) w → (Instr.loadAt 3 (.pointer (some ⟨gk, j, none⟩))).run Tryd.prog w = .ok (.int .i64 (ki[j] : Int)) w from fun w h =>
              atCell (cells_of (reads_row h 0 rfl) j (intv ki[j]) (by rw [List.getElem?_map, List.getElem?_eq_getElem hj]; rfl)) (by simp [go_sem])
            have lj := show ∀ w, Ent l w → _ from fun w h => (load_en (hk _ h) hLk).2.1
            have hjI : (j : Int) < (ki.length : Int) := by omega
            have hLI : (ki[j] : Int) < (L.length : Int) := by omega
            have HFh := SL.hid (fun (h : L[ki[j]].path = tgt) => Found.hit (L := L) hj hLk h)
            have HFs := SL.hid (fun (h : (!(nm == [])) = true → L[ki[j]].path ≠ tgt) => hfo.skip (fun hne _ _ => h hne))
            have hkc : k + 1 ≤ 1000 := by omega
            have hwk1 : wrap64 ((k : Int) + 1) = ((k + 1 : Nat) : Int) := by unfold wrap64; omega
            have hwk2 : IntKind.i64.wrap ((k : Int) + 1) = (k : Int) + 1 := by
              simp only [IntKind.wrap, IntKind.bits, IntKind.signed]
              simp
              omega
            have h0k : 0 ≤ (k : Int) + 1 := by omega
            have hkt : ((k : Int) + 1).toNat = k + 1 := by omega
            have hcn : (k : Int) + 1 ≤ (cn : Int) := by omega
            have hcn2 : k + 1 ≤ cn := by omega
            generalize L[ki[j]].path = yp at *
            generalize ki[j] = kj at *
            have Nj := SL.hid nj
            have Lj := SL.hid lj
            clear nj lj hfo hn hk
            have hm1 := mkb yp tgt
            cases hty : (yp == tgt) with
            | false =>
              rw [hty] at hm1
              have HB := SL.hid (HFs.out (fun _ => by simpa using hty))
              clear HFs HFh
              go_wp2
              refine wp_region_held_drew (S := (fun w' => ((Instr.loadAt 22 (.pointer (some ⟨b2, 0, none⟩))).run Tryd.prog w' = .ok (.slice (some ⟨b, off, none⟩) L.length c) w') ∧ ((Instr.loadAt 3 (.pointer (some ⟨gk, j, none⟩))).run Tryd.prog w' = .ok (.int .i64 (kj : Int)) w') ∧ ((Instr.loadAt 9 (.pointer (some ⟨b, off + kj * 3, none⟩))).run Tryd.prog w' = .ok (.string ⟨yp.toArray⟩) w') ∧ ((Instr.loadAt 9 (.pointer (some ⟨bn, on + k, none⟩))).run Tryd.prog w' = .ok (.string ⟨nm.toArray⟩) w'))) (by kernel_rfl) ⟨(atVm hE.drew (by repeat (first | exact List.Mem.head _ | refine List.Mem.tail _ ?_)) (by simp [go_sem]) rfl), (Nj.out _ (by first | exact hE.drew | exact hE.drew.tail)), (Lj.out _ (hE.drew.suf (by repeat (first | exact List.suffix_refl _ | refine List.IsSuffix.trans ?_ (List.suffix_cons _ _))))), (Nn.out _ (hE.drew.suf (by repeat (first | exact List.suffix_refl _ | refine List.IsSuffix.trans ?_ (List.suffix_cons _ _)))))⟩ (fun hS => ?_)
              refine takeW 0 ⟨some 32, .fieldAddr 33 (.tmp 2) 0, 0, "ref.go:118", #[], none⟩ ?_ (.inl ⟨by rfl, ?_⟩) hS ?_
              rotate_left
              · (intro w hSw; (try dsimp only at hSw); go_simp; (try with_reducible rfl))
              try simp only [Act.put, sb, s0, sz]
              refine takeW 1 ⟨some 33, .load 22 (.tmp 32), 22, "ref.go:118", #[⟨0, .data⟩], none⟩ ?_ (.inl ⟨by rfl, ?_⟩) hS ?_
              rotate_left
              · (intro w hSw; (try dsimp only at hSw); go_simp; (try with_reducible rfl))
              try simp only [Act.put, sb, s0, sz]
              refine takeW 2 ⟨some 34, .move (.tmp 9), 72, "ref.go:118", #[], none⟩ ?_ (.inl ⟨by rfl, ?_⟩) hS ?_
              rotate_left
              · (intro w hSw; (try dsimp only at hSw); go_simp; (try with_reducible rfl))
              try simp only [Act.put, sb, s0, sz]
              refine takeW 3 ⟨some 35, .move (.tmp 10), 3, "ref.go:118", #[], none⟩ ?_ (.inl ⟨by rfl, ?_⟩) hS ?_
              rotate_left
              · (intro w hSw; (try dsimp only at hSw); go_simp; (try with_reducible rfl))
              try simp only [Act.put, sb, s0, sz]
              refine takeW 4 ⟨some 36, .indexAddr 72 (.tmp 34) (.tmp 35), 0, "ref.go:118", #[⟨2, .data⟩, ⟨3, .data⟩], none⟩ ?_ (.inl ⟨by rfl, ?_⟩) hS ?_
              rotate_left
              · (intro w hSw; (try dsimp only at hSw); go_simp; (try with_reducible rfl))
              try simp only [Act.put, sb, s0, sz]
              refine takeW 5 ⟨some 37, .load 3 (.tmp 36), 3, "ref.go:118", #[⟨4, .data⟩], none⟩ ?_ (.inl ⟨by rfl, ?_⟩) hS ?_
              rotate_left
              · (intro w hSw; (try dsimp only at hSw); go_simp; (try with_reducible rfl))
              try simp only [Act.put, sb, s0, sz]
              refine takeW 6 ⟨some 38, .indexAddr 22 (.tmp 33) (.tmp 37), 0, "ref.go:118", #[⟨1, .data⟩, ⟨5, .data⟩], none⟩ ?_ (.inl ⟨by rfl, ?_⟩) hS ?_
              rotate_left
              · (intro w hSw; (try dsimp only at hSw); go_simp; (try with_reducible rfl))
              try simp only [Act.put, sb, s0, sz]
              refine takeW 7 ⟨some 39, .fieldAddr 41 (.tmp 38) 0, 0, "ref.go:118", #[⟨6, .data⟩], none⟩ ?_ (.inl ⟨by rfl, ?_⟩) hS ?_
              rotate_left
              · (intro w hSw; (try dsimp only at hSw); go_simp; (try with_reducible rfl))
              try simp only [Act.put, sb, s0, sz]
              refine takeW 8 ⟨some 40, .load 9 (.tmp 39), 9, "ref.go:118", #[⟨7, .data⟩], none⟩ ?_ (.inl ⟨by rfl, ?_⟩) hS ?_
              rotate_left
              · (intro w hSw; (try dsimp only at hSw); go_simp; (try with_reducible rfl))
              try simp only [Act.put, sb, s0, sz]
              refine takeW 9 ⟨some 41, .move (.tmp 1), 23, "ref.go:118", #[], none⟩ ?_ (.inl ⟨by rfl, ?_⟩) hS ?_
              rotate_left
              · (intro w hSw; (try dsimp only at hSw); go_simp; (try with_reducible rfl))
              try simp only [Act.put, sb, s0, sz]
              refine takeW 10 ⟨some 42, .move (.tmp 7), 3, "ref.go:118", #[], none⟩ ?_ (.inl ⟨by rfl, ?_⟩) hS ?_
              rotate_left
              · (intro w hSw; (try dsimp only at hSw); go_simp; (try with_reducible rfl))
              try simp only [Act.put, sb, s0, sz]
              refine takeW 11 ⟨some 43, .binOp .add 3 (.tmp 42) (.const (.int .i64 1)) 3, 3, "ref.go:118", #[⟨10, .data⟩], none⟩ ?_ (.inl ⟨by rfl, ?_⟩) hS ?_
              rotate_left
              · (intro w hSw; (try dsimp only at hSw); go_simp; (try with_reducible rfl))
              try simp only [Act.put, sb, s0, sz]
              refine takeW 12 ⟨some 44, .slice 23 (.tmp 41) none (some (.tmp 43)) none, 23, "ref.go:118", #[⟨9, .data⟩, ⟨11, .data⟩], none⟩ ?_ (.inl ⟨by rfl, ?_⟩) hS ?_
              rotate_left
              · (intro w hSw; (try dsimp only at hSw); go_simp; (try with_reducible rfl))
              try simp only [Act.put, sb, s0, sz]
              refine wpAnyH_ready (rs := [13]) (by kernel_rfl) (by simp) ?_
              refine (AllReadyH.cons (o := { dst := some 45, op := Go.Op.call { callee := Go.Callee.builtin Go.Builtin.append, args := #[Go.Operand.const (Go.Value.slice none 0 0), Go.Operand.tmp 44], argTypes := #[23, 23] }, type := 23, pos := "ref.go:118", after := #[{ on := 12, ground := Go.Ground.data }], guard := none }) rfl (fun K hK => ?_) AllReadyH.nil)
              (refine step_appendNil hE.drew rfl (by rfl) (by rfl) (by rfl) Tryd.underlying23 info_str (by decide) (HN1.out _ (hE.drew.suf (by repeat (first | exact List.suffix_refl _ | refine List.IsSuffix.trans ?_ (List.suffix_cons _ _))))) HN2.out HN3.out (by omega) (by omega) ?_; intro a1 c1 w6 hA)
              refine hK.out _ _ ⟨(atVm hA (by repeat (first | exact List.Mem.head _ | refine List.Mem.tail _ ?_)) (by simp [go_sem]) rfl), (Nj.out _ (by first | exact hA | exact hA.tail)), (Lj.out _ (hA.suf (by repeat (first | exact List.suffix_refl _ | refine List.IsSuffix.trans ?_ (List.suffix_cons _ _))))), (Nn.out _ (hA.suf (by repeat (first | exact List.suffix_refl _ | refine List.IsSuffix.trans ?_ (List.suffix_cons _ _)))))⟩ (fun hS => ?_)
              clear hK K
              try simp only [Act.put, sb, s0, sz]
              refine wpAnyH_ready (rs := [14]) (by kernel_rfl) (by simp) ?_
              refine (AllReadyH.cons (o := { dst := some 46, op := Go.Op.call { callee := Go.Callee.value (Go.Operand.func 37), args := #[Go.Operand.tmp 45], argTypes := #[23] }, type := 9, pos := "ref.go:118", after := #[{ on := 13, ground := Go.Ground.data }, { on := 13, ground := Go.Ground.chain }], guard := none }) rfl (fun K hK => ?_) AllReadyH.nil)
              (go_simp; refine (HJ.out _ _ _ _ hA).mono ?_; rintro e w7 ⟨v, rfl, rfl, hB⟩)
              refine hK.out _ _ ⟨(atVm hB (by repeat (first | exact List.Mem.head _ | refine List.Mem.tail _ ?_)) (by simp [go_sem]) rfl), (Nj.out _ (by first | exact hB | exact hB.tail)), (Lj.out _ (hB.suf (by repeat (first | exact List.suffix_refl _ | refine List.IsSuffix.trans ?_ (List.suffix_cons _ _))))), (Nn.out _ (hB.suf (by repeat (first | exact List.suffix_refl _ | refine List.IsSuffix.trans ?_ (List.suffix_cons _ _)))))⟩ (fun hS => ?_)
              clear hK K
              try simp only [Act.put, sb, s0, sz]
              refine takeW 15 ⟨some 47, .binOp .eql 9 (.tmp 40) (.tmp 46) 9, 4, "ref.go:118", #[⟨8, .data⟩, ⟨14, .data⟩], none⟩ ?_ (.inl ⟨by rfl, ?_⟩) hS ?_
              rotate_left
              · (intro w hSw; (try dsimp only at hSw); go_simp; (try with_reducible rfl))
              try simp only [Act.put, sb, s0, sz]
              refine takeW 16 ⟨some 48, .move (.tmp 47), 4, "ref.go:118", #[⟨15, .data⟩, ⟨14, .chain⟩], none⟩ ?_ (.inl ⟨by rfl, ?_⟩) hS ?_
              rotate_left
              · (intro w hSw; (try dsimp only at hSw); go_simp; (try with_reducible rfl))
              try simp only [Act.put, sb, s0, sz]
              refine takeW 17 ⟨some 49, .move (.tmp 1), 23, "ref.go:118", #[⟨16, .guard⟩], some (16, true)⟩ undef (.inr ⟨by rfl, rfl⟩) hS ?_; try simp only [Act.put, sb, s0, sz]
              refine takeW 18 ⟨some 50, .move (.tmp 7), 3, "ref.go:118", #[⟨16, .guard⟩], some (16, true)⟩ undef (.inr ⟨by rfl, rfl⟩) hS ?_; try simp only [Act.put, sb, s0, sz]
              refine takeW 19 ⟨some 51, .indexAddr 23 (.tmp 49) (.tmp 50), 0, "ref.go:118", #[⟨17, .data⟩, ⟨18, .data⟩, ⟨16, .guard⟩], some (16, true)⟩ undef (.inr ⟨by rfl, rfl⟩) hS ?_; try simp only [Act.put, sb, s0, sz]
              refine takeW 20 ⟨some 52, .load 9 (.tmp 51), 9, "ref.go:118", #[⟨19, .data⟩, ⟨16, .guard⟩], some (16, true)⟩ undef (.inr ⟨by rfl, rfl⟩) hS ?_; try simp only [Act.put, sb, s0, sz]
              refine takeW 21 ⟨some 53, .binOp .neq 9 (.tmp 52) (.const (.string { data := #[] })) 9, 4, "ref.go:118", #[⟨20, .data⟩, ⟨16, .guard⟩], some (16, true)⟩ undef (.inr ⟨by rfl, rfl⟩) hS ?_; try simp only [Act.put, sb, s0, sz]
              refine takeW 22 ⟨some 54, .pick (.tmp 48) (.tmp 53) (.const (.bool false)), 4, "ref.go:118", #[⟨16, .data⟩, ⟨21, .data⟩], none⟩ ?_ (.inl ⟨by rfl, ?_⟩) hS ?_
              rotate_left
              · (intro w hSw; (try dsimp only at hSw); go_simp; (try with_reducible rfl))
              try simp only [Act.put, sb, s0, sz]
              refine wpAnyH_done (by kernel_rfl) ?_ _
              clear hS hA
              go_wp2_with (first
                | go_skip
                | ((with_reducible (show Go.wpList _ _ _ (Go.Oper.mk _ (.load 3 _) _ _ _ _ :: _) _ _)); refine wpl_run rfl (w' := w7) (v := .int .i64 (kj : Int)) (by simp only [execOp, Act.eval]; simp [Nj.out _ hB.tail]) ?_))
              go_roundw
              case rel => exact ⟨j + 1, by omega, by first | rfl | simp, HB.out, hB.tail⟩
              case measure => simp [intOf] <;> omega
            | true =>
              rw [hty] at hm1
              cases hne : (nm == []) with
              | true =>
                rw [hne] at hmn HFs
                have HB := SL.hid (HFs.out (fun h => by cases h))
                clear HFs HFh
                go_wp2
                refine wp_region_held_drew (S := (fun w' => ((Instr.loadAt 22 (.pointer (some ⟨b2, 0, none⟩))).run Tryd.prog w' = .ok (.slice (some ⟨b, off, none⟩) L.length c) w') ∧ ((Instr.loadAt 3 (.pointer (some ⟨gk, j, none⟩))).run Tryd.prog w' = .ok (.int .i64 (kj : Int)) w') ∧ ((Instr.loadAt 9 (.pointer (some ⟨b, off + kj * 3, none⟩))).run Tryd.prog w' = .ok (.string ⟨yp.toArray⟩) w') ∧ ((Instr.loadAt 9 (.pointer (some ⟨bn, on + k, none⟩))).run Tryd.prog w' = .ok (.string ⟨nm.toArray⟩) w'))) (by kernel_rfl) ⟨(atVm hE.drew (by repeat (first | exact List.Mem.head _ | refine List.Mem.tail _ ?_)) (by simp [go_sem]) rfl), (Nj.out _ (by first | exact hE.drew | exact hE.drew.tail)), (Lj.out _ (hE.drew.suf (by repeat (first | exact List.suffix_refl _ | refine List.IsSuffix.trans ?_ (List.suffix_cons _ _))))), (Nn.out _ (hE.drew.suf (by repeat (first | exact List.suffix_refl _ | refine List.IsSuffix.trans ?_ (List.suffix_cons _ _)))))⟩ (fun hS => ?_)
                refine takeW 0 ⟨some 32, .fieldAddr 33 (.tmp 2) 0, 0, "ref.go:118", #[], none⟩ ?_ (.inl ⟨by rfl, ?_⟩) hS ?_
                rotate_left
                · (intro w hSw; (try dsimp only at hSw); go_simp; (try with_reducible rfl))
                try simp only [Act.put, sb, s0, sz]
                refine takeW 1 ⟨some 33, .load 22 (.tmp 32), 22, "ref.go:118", #[⟨0, .data⟩], none⟩ ?_ (.inl ⟨by rfl, ?_⟩) hS ?_
                rotate_left
                · (intro w hSw; (try dsimp only at hSw); go_simp; (try with_reducible rfl))
                try simp only [Act.put, sb, s0, sz]
                refine takeW 2 ⟨some 34, .move (.tmp 9), 72, "ref.go:118", #[], none⟩ ?_ (.inl ⟨by rfl, ?_⟩) hS ?_
                rotate_left
                · (intro w hSw; (try dsimp only at hSw); go_simp; (try with_reducible rfl))
                try simp only [Act.put, sb, s0, sz]
                refine takeW 3 ⟨some 35, .move (.tmp 10), 3, "ref.go:118", #[], none⟩ ?_ (.inl ⟨by rfl, ?_⟩) hS ?_
                rotate_left
                · (intro w hSw; (try dsimp only at hSw); go_simp; (try with_reducible rfl))
                try simp only [Act.put, sb, s0, sz]
                refine takeW 4 ⟨some 36, .indexAddr 72 (.tmp 34) (.tmp 35), 0, "ref.go:118", #[⟨2, .data⟩, ⟨3, .data⟩], none⟩ ?_ (.inl ⟨by rfl, ?_⟩) hS ?_
                rotate_left
                · (intro w hSw; (try dsimp only at hSw); go_simp; (try with_reducible rfl))
                try simp only [Act.put, sb, s0, sz]
                refine takeW 5 ⟨some 37, .load 3 (.tmp 36), 3, "ref.go:118", #[⟨4, .data⟩], none⟩ ?_ (.inl ⟨by rfl, ?_⟩) hS ?_
                rotate_left
                · (intro w hSw; (try dsimp only at hSw); go_simp; (try with_reducible rfl))
                try simp only [Act.put, sb, s0, sz]
                refine takeW 6 ⟨some 38, .indexAddr 22 (.tmp 33) (.tmp 37), 0, "ref.go:118", #[⟨1, .data⟩, ⟨5, .data⟩], none⟩ ?_ (.inl ⟨by rfl, ?_⟩) hS ?_
                rotate_left
                · (intro w hSw; (try dsimp only at hSw); go_simp; (try with_reducible rfl))
                try simp only [Act.put, sb, s0, sz]
                refine takeW 7 ⟨some 39, .fieldAddr 41 (.tmp 38) 0, 0, "ref.go:118", #[⟨6, .data⟩], none⟩ ?_ (.inl ⟨by rfl, ?_⟩) hS ?_
                rotate_left
                · (intro w hSw; (try dsimp only at hSw); go_simp; (try with_reducible rfl))
                try simp only [Act.put, sb, s0, sz]
                refine takeW 8 ⟨some 40, .load 9 (.tmp 39), 9, "ref.go:118", #[⟨7, .data⟩], none⟩ ?_ (.inl ⟨by rfl, ?_⟩) hS ?_
                rotate_left
                · (intro w hSw; (try dsimp only at hSw); go_simp; (try with_reducible rfl))
                try simp only [Act.put, sb, s0, sz]
                refine takeW 9 ⟨some 41, .move (.tmp 1), 23, "ref.go:118", #[], none⟩ ?_ (.inl ⟨by rfl, ?_⟩) hS ?_
                rotate_left
                · (intro w hSw; (try dsimp only at hSw); go_simp; (try with_reducible rfl))
                try simp only [Act.put, sb, s0, sz]
                refine takeW 10 ⟨some 42, .move (.tmp 7), 3, "ref.go:118", #[], none⟩ ?_ (.inl ⟨by rfl, ?_⟩) hS ?_
                rotate_left
                · (intro w hSw; (try dsimp only at hSw); go_simp; (try with_reducible rfl))
                try simp only [Act.put, sb, s0, sz]
                refine takeW 11 ⟨some 43, .binOp .add 3 (.tmp 42) (.const (.int .i64 1)) 3, 3, "ref.go:118", #[⟨10, .data⟩], none⟩ ?_ (.inl ⟨by rfl, ?_⟩) hS ?_
                rotate_left
                · (intro w hSw; (try dsimp only at hSw); go_simp; (try with_reducible rfl))
                try simp only [Act.put, sb, s0, sz]
                refine takeW 12 ⟨some 44, .slice 23 (.tmp 41) none (some (.tmp 43)) none, 23, "ref.go:118", #[⟨9, .data⟩, ⟨11, .data⟩], none⟩ ?_ (.inl ⟨by rfl, ?_⟩) hS ?_
                rotate_left
                · (intro w hSw; (try dsimp only at hSw); go_simp; (try with_reducible rfl))
                try simp only [Act.put, sb, s0, sz]
                refine wpAnyH_ready (rs := [13]) (by kernel_rfl) (by simp) ?_
                refine (AllReadyH.cons (o := { dst := some 45, op := Go.Op.call { callee := Go.Callee.builtin Go.Builtin.append, args := #[Go.Operand.const (Go.Value.slice none 0 0), Go.Operand.tmp 44], argTypes := #[23, 23] }, type := 23, pos := "ref.go:118", after := #[{ on := 12, ground := Go.Ground.data }], guard := none }) rfl (fun K hK => ?_) AllReadyH.nil)
                (refine step_appendNil hE.drew rfl (by rfl) (by rfl) (by rfl) Tryd.underlying23 info_str (by decide) (HN1.out _ (hE.drew.suf (by repeat (first | exact List.suffix_refl _ | refine List.IsSuffix.trans ?_ (List.suffix_cons _ _))))) HN2.out HN3.out (by omega) (by omega) ?_; intro a1 c1 w6 hA)
                refine hK.out _ _ ⟨(atVm hA (by repeat (first | exact List.Mem.head _ | refine List.Mem.tail _ ?_)) (by simp [go_sem]) rfl), (Nj.out _ (by first | exact hA | exact hA.tail)), (Lj.out _ (hA.suf (by repeat (first | exact List.suffix_refl _ | refine List.IsSuffix.trans ?_ (List.suffix_cons _ _))))), (Nn.out _ (hA.suf (by repeat (first | exact List.suffix_refl _ | refine List.IsSuffix.trans ?_ (List.suffix_cons _ _)))))⟩ (fun hS => ?_)
                clear hK K
                try simp only [Act.put, sb, s0, sz]
                refine wpAnyH_ready (rs := [14]) (by kernel_rfl) (by simp) ?_
                refine (AllReadyH.cons (o := { dst := some 46, op := Go.Op.call { callee := Go.Callee.value (Go.Operand.func 37), args := #[Go.Operand.tmp 45], argTypes := #[23] }, type := 9, pos := "ref.go:118", after := #[{ on := 13, ground := Go.Ground.data }, { on := 13, ground := Go.Ground.chain }], guard := none }) rfl (fun K hK => ?_) AllReadyH.nil)
                (go_simp; refine (HJ.out _ _ _ _ hA).mono ?_; rintro e w7 ⟨v, rfl, rfl, hB⟩)
                refine hK.out _ _ ⟨(atVm hB (by repeat (first | exact List.Mem.head _ | refine List.Mem.tail _ ?_)) (by simp [go_sem]) rfl), (Nj.out _ (by first | exact hB | exact hB.tail)), (Lj.out _ (hB.suf (by repeat (first | exact List.suffix_refl _ | refine List.IsSuffix.trans ?_ (List.suffix_cons _ _))))), (Nn.out _ (hB.suf (by repeat (first | exact List.suffix_refl _ | refine List.IsSuffix.trans ?_ (List.suffix_cons _ _)))))⟩ (fun hS => ?_)
                clear hK K
                try simp only [Act.put, sb, s0, sz]
                refine takeW 15 ⟨some 47, .binOp .eql 9 (.tmp 40) (.tmp 46) 9, 4, "ref.go:118", #[⟨8, .data⟩, ⟨14, .data⟩], none⟩ ?_ (.inl ⟨by rfl, ?_⟩) hS ?_
                rotate_left
                · (intro w hSw; (try dsimp only at hSw); go_simp; (try with_reducible rfl))
                try simp only [Act.put, sb, s0, sz]
                refine takeW 16 ⟨some 48, .move (.tmp 47), 4, "ref.go:118", #[⟨15, .data⟩, ⟨14, .chain⟩], none⟩ ?_ (.inl ⟨by rfl, ?_⟩) hS ?_
                rotate_left
                · (intro w hSw; (try dsimp only at hSw); go_simp; (try with_reducible rfl))
                try simp only [Act.put, sb, s0, sz]
                refine takeW 17 ⟨some 49, .move (.tmp 1), 23, "ref.go:118", #[⟨16, .guard⟩], some (16, true)⟩ ?_ (.inl ⟨by rfl, ?_⟩) hS ?_
                rotate_left
                · (intro w hSw; (try dsimp only at hSw); go_simp; (try with_reducible rfl))
                try simp only [Act.put, sb, s0, sz]
                refine takeW 18 ⟨some 50, .move (.tmp 7), 3, "ref.go:118", #[⟨16, .guard⟩], some (16, true)⟩ ?_ (.inl ⟨by rfl, ?_⟩) hS ?_
                rotate_left
                · (intro w hSw; (try dsimp only at hSw); go_simp; (try with_reducible rfl))
                try simp only [Act.put, sb, s0, sz]
                refine takeW 19 ⟨some 51, .indexAddr 23 (.tmp 49) (.tmp 50), 0, "ref.go:118", #[⟨17, .data⟩, ⟨18, .data⟩, ⟨16, .guard⟩], some (16, true)⟩ ?_ (.inl ⟨by rfl, ?_⟩) hS ?_
                rotate_left
                · (intro w hSw; (try dsimp only at hSw); go_simp; (try with_reducible rfl))
                try simp only [Act.put, sb, s0, sz]
                refine takeW 20 ⟨some 52, .load 9 (.tmp 51), 9, "ref.go:118", #[⟨19, .data⟩, ⟨16, .guard⟩], some (16, true)⟩ ?_ (.inl ⟨by rfl, ?_⟩) hS ?_
                rotate_left
                · (intro w hSw; (try dsimp only at hSw); go_simp; (try with_reducible rfl))
                try simp only [Act.put, sb, s0, sz]
                refine takeW 21 ⟨some 53, .binOp .neq 9 (.tmp 52) (.const (.string { data := #[] })) 9, 4, "ref.go:118", #[⟨20, .data⟩, ⟨16, .guard⟩], some (16, true)⟩ ?_ (.inl ⟨by rfl, ?_⟩) hS ?_
                rotate_left
                · (intro w hSw; (try dsimp only at hSw); go_simp; (try with_reducible rfl))
                try simp only [Act.put, sb, s0, sz]
                refine takeW 22 ⟨some 54, .pick (.tmp 48) (.tmp 53) (.const (.bool false)), 4, "ref.go:118", #[⟨16, .data⟩, ⟨21, .data⟩], none⟩ ?_ (.inl ⟨by rfl, ?_⟩) hS ?_
                rotate_left
                · (intro w hSw; (try dsimp only at hSw); go_simp; (try with_reducible rfl))
                try simp only [Act.put, sb, s0, sz]
                refine wpAnyH_done (by kernel_rfl) ?_ _
                clear hS hA
                go_wp2_with (first
                  | go_skip
                  | ((with_reducible (show Go.wpList _ _ _ (Go.Oper.mk _ (.load 3 _) _ _ _ _ :: _) _ _)); refine wpl_run rfl (w' := w7) (v := .int .i64 (kj : Int)) (by simp only [execOp, Act.eval]; simp [Nj.out _ hB.tail]) ?_))
                go_roundw
                case rel => exact ⟨j + 1, by omega, by first | rfl | simp, HB.out, hB.tail⟩
                case measure => simp [intOf] <;> omega
              | false =>
                rw [hne] at hmn
                have HB := SL.hid (HFh.out (by simpa using hty))
                clear HFs HFh
                go_wp2
                refine wp_region_held_drew (S := (fun w' => ((Instr.loadAt 22 (.pointer (some ⟨b2, 0, none⟩))).run Tryd.prog w' = .ok (.slice (some ⟨b, off, none⟩) L.length c) w') ∧ ((Instr.loadAt 3 (.pointer (some ⟨gk, j, none⟩))).run Tryd.prog w' = .ok (.int .i64 (kj : Int)) w') ∧ ((Instr.loadAt 9 (.pointer (some ⟨b, off + kj * 3, none⟩))).run Tryd.prog w' = .ok (.string ⟨yp.toArray⟩) w') ∧ ((Instr.loadAt 9 (.pointer (some ⟨bn, on + k, none⟩))).run Tryd.prog w' = .ok (.string ⟨nm.toArray⟩) w'))) (by kernel_rfl) ⟨(atVm hE.drew (by repeat (first | exact List.Mem.head _ | refine List.Mem.tail _ ?_)) (by simp [go_sem]) rfl), (Nj.out _ (by first | exact hE.drew | exact hE.drew.tail)), (Lj.out _ (hE.drew.suf (by repeat (first | exact List.suffix_refl _ | refine List.IsSuffix.trans ?_ (List.suffix_cons _ _))))), (Nn.out _ (hE.drew.suf (by repeat (first | exact List.suffix_refl _ | refine List.IsSuffix.trans ?_ (List.suffix_cons _ _)))))⟩ (fun hS => ?_)
                refine takeW 0 ⟨some 32, .fieldAddr 33 (.tmp 2) 0, 0, "ref.go:118", #[], none⟩ ?_ (.inl ⟨by rfl, ?_⟩) hS ?_
                rotate_left
                · (intro w hSw; (try dsimp only at hSw); go_simp; (try with_reducible rfl))
                try simp only [Act.put, sb, s0, sz]
                refine takeW 1 ⟨some 33, .load 22 (.tmp 32), 22, "ref.go:118", #[⟨0, .data⟩], none⟩ ?_ (.inl ⟨by rfl, ?_⟩) hS ?_
                rotate_left
                · (intro w hSw; (try dsimp only at hSw); go_simp; (try with_reducible rfl))
                try simp only [Act.put, sb, s0, sz]
                refine takeW 2 ⟨some 34, .move (.tmp 9), 72, "ref.go:118", #[], none⟩ ?_ (.inl ⟨by rfl, ?_⟩) hS ?_
                rotate_left
                · (intro w hSw; (try dsimp only at hSw); go_simp; (try with_reducible rfl))
                try simp only [Act.put, sb, s0, sz]
                refine takeW 3 ⟨some 35, .move (.tmp 10), 3, "ref.go:118", #[], none⟩ ?_ (.inl ⟨by rfl, ?_⟩) hS ?_
                rotate_left
                · (intro w hSw; (try dsimp only at hSw); go_simp; (try with_reducible rfl))
                try simp only [Act.put, sb, s0, sz]
                refine takeW 4 ⟨some 36, .indexAddr 72 (.tmp 34) (.tmp 35), 0, "ref.go:118", #[⟨2, .data⟩, ⟨3, .data⟩], none⟩ ?_ (.inl ⟨by rfl, ?_⟩) hS ?_
                rotate_left
                · (intro w hSw; (try dsimp only at hSw); go_simp; (try with_reducible rfl))
                try simp only [Act.put, sb, s0, sz]
                refine takeW 5 ⟨some 37, .load 3 (.tmp 36), 3, "ref.go:118", #[⟨4, .data⟩], none⟩ ?_ (.inl ⟨by rfl, ?_⟩) hS ?_
                rotate_left
                · (intro w hSw; (try dsimp only at hSw); go_simp; (try with_reducible rfl))
                try simp only [Act.put, sb, s0, sz]
                refine takeW 6 ⟨some 38, .indexAddr 22 (.tmp 33) (.tmp 37), 0, "ref.go:118", #[⟨1, .data⟩, ⟨5, .data⟩], none⟩ ?_ (.inl ⟨by rfl, ?_⟩) hS ?_
                rotate_left
                · (intro w hSw; (try dsimp only at hSw); go_simp; (try with_reducible rfl))
                try simp only [Act.put, sb, s0, sz]
                refine takeW 7 ⟨some 39, .fieldAddr 41 (.tmp 38) 0, 0, "ref.go:118", #[⟨6, .data⟩], none⟩ ?_ (.inl ⟨by rfl, ?_⟩) hS ?_
                rotate_left
                · (intro w hSw; (try dsimp only at hSw); go_simp; (try with_reducible rfl))
                try simp only [Act.put, sb, s0, sz]
                refine takeW 8 ⟨some 40, .load 9 (.tmp 39), 9, "ref.go:118", #[⟨7, .data⟩], none⟩ ?_ (.inl ⟨by rfl, ?_⟩) hS ?_
                rotate_left
                · (intro w hSw; (try dsimp only at hSw); go_simp; (try with_reducible rfl))
                try simp only [Act.put, sb, s0, sz]
                refine takeW 9 ⟨some 41, .move (.tmp 1), 23, "ref.go:118", #[], none⟩ ?_ (.inl ⟨by rfl, ?_⟩) hS ?_
                rotate_left
                · (intro w hSw; (try dsimp only at hSw); go_simp; (try with_reducible rfl))
                try simp only [Act.put, sb, s0, sz]
                refine takeW 10 ⟨some 42, .move (.tmp 7), 3, "ref.go:118", #[], none⟩ ?_ (.inl ⟨by rfl, ?_⟩) hS ?_
                rotate_left
                · (intro w hSw; (try dsimp only at hSw); go_simp; (try with_reducible rfl))
                try simp only [Act.put, sb, s0, sz]
                refine takeW 11 ⟨some 43, .binOp .add 3 (.tmp 42) (.const (.int .i64 1)) 3, 3, "ref.go:118", #[⟨10, .data⟩], none⟩ ?_ (.inl ⟨by rfl, ?_⟩) hS ?_
                rotate_left
                · (intro w hSw; (try dsimp only at hSw); go_simp; (try with_reducible rfl))
                try simp only [Act.put, sb, s0, sz]
                refine takeW 12 ⟨some 44, .slice 23 (.tmp 41) none (some (.tmp 43)) none, 23, "ref.go:118", #[⟨9, .data⟩, ⟨11, .data⟩], none⟩ ?_ (.inl ⟨by rfl, ?_⟩) hS ?_
                rotate_left
                · (intro w hSw; (try dsimp only at hSw); go_simp; (try with_reducible rfl))
                try simp only [Act.put, sb, s0, sz]
                refine wpAnyH_ready (rs := [13]) (by kernel_rfl) (by simp) ?_
                refine (AllReadyH.cons (o := { dst := some 45, op := Go.Op.call { callee := Go.Callee.builtin Go.Builtin.append, args := #[Go.Operand.const (Go.Value.slice none 0 0), Go.Operand.tmp 44], argTypes := #[23, 23] }, type := 23, pos := "ref.go:118", after := #[{ on := 12, ground := Go.Ground.data }], guard := none }) rfl (fun K hK => ?_) AllReadyH.nil)
                (refine step_appendNil hE.drew rfl (by rfl) (by rfl) (by rfl) Tryd.underlying23 info_str (by decide) (HN1.out _ (hE.drew.suf (by repeat (first | exact List.suffix_refl _ | refine List.IsSuffix.trans ?_ (List.suffix_cons _ _))))) HN2.out HN3.out (by omega) (by omega) ?_; intro a1 c1 w6 hA)
                refine hK.out _ _ ⟨(atVm hA (by repeat (first | exact List.Mem.head _ | refine List.Mem.tail _ ?_)) (by simp [go_sem]) rfl), (Nj.out _ (by first | exact hA | exact hA.tail)), (Lj.out _ (hA.suf (by repeat (first | exact List.suffix_refl _ | refine List.IsSuffix.trans ?_ (List.suffix_cons _ _))))), (Nn.out _ (hA.suf (by repeat (first | exact List.suffix_refl _ | refine List.IsSuffix.trans ?_ (List.suffix_cons _ _)))))⟩ (fun hS => ?_)
                clear hK K
                try simp only [Act.put, sb, s0, sz]
                refine wpAnyH_ready (rs := [14]) (by kernel_rfl) (by simp) ?_
                refine (AllReadyH.cons (o := { dst := some 46, op := Go.Op.call { callee := Go.Callee.value (Go.Operand.func 37), args := #[Go.Operand.tmp 45], argTypes := #[23] }, type := 9, pos := "ref.go:118", after := #[{ on := 13, ground := Go.Ground.data }, { on := 13, ground := Go.Ground.chain }], guard := none }) rfl (fun K hK => ?_) AllReadyH.nil)
                (go_simp; refine (HJ.out _ _ _ _ hA).mono ?_; rintro e w7 ⟨v, rfl, rfl, hB⟩)
                refine hK.out _ _ ⟨(atVm hB (by repeat (first | exact List.Mem.head _ | refine List.Mem.tail _ ?_)) (by simp [go_sem]) rfl), (Nj.out _ (by first | exact hB | exact hB.tail)), (Lj.out _ (hB.suf (by repeat (first | exact List.suffix_refl _ | refine List.IsSuffix.trans ?_ (List.suffix_cons _ _))))), (Nn.out _ (hB.suf (by repeat (first | exact List.suffix_refl _ | refine List.IsSuffix.trans ?_ (List.suffix_cons _ _)))))⟩ (fun hS => ?_)
                clear hK K
                try simp only [Act.put, sb, s0, sz]
                refine takeW 15 ⟨some 47, .binOp .eql 9 (.tmp 40) (.tmp 46) 9, 4, "ref.go:118", #[⟨8, .data⟩, ⟨14, .data⟩], none⟩ ?_ (.inl ⟨by rfl, ?_⟩) hS ?_
                rotate_left
                · (intro w hSw; (try dsimp only at hSw); go_simp; (try with_reducible rfl))
                try simp only [Act.put, sb, s0, sz]
                refine takeW 16 ⟨some 48, .move (.tmp 47), 4, "ref.go:118", #[⟨15, .data⟩, ⟨14, .chain⟩], none⟩ ?_ (.inl ⟨by rfl, ?_⟩) hS ?_
                rotate_left
                · (intro w hSw; (try dsimp only at hSw); go_simp; (try with_reducible rfl))
                try simp only [Act.put, sb, s0, sz]
                refine takeW 17 ⟨some 49, .move (.tmp 1), 23, "ref.go:118", #[⟨16, .guard⟩], some (16, true)⟩ ?_ (.inl ⟨by rfl, ?_⟩) hS ?_
                rotate_left
                · (intro w hSw; (try dsimp only at hSw); go_simp; (try with_reducible rfl))
                try simp only [Act.put, sb, s0, sz]
                refine takeW 18 ⟨some 50, .move (.tmp 7), 3, "ref.go:118", #[⟨16, .guard⟩], some (16, true)⟩ ?_ (.inl ⟨by rfl, ?_⟩) hS ?_
                rotate_left
                · (intro w hSw; (try dsimp only at hSw); go_simp; (try with_reducible rfl))
                try simp only [Act.put, sb, s0, sz]
                refine takeW 19 ⟨some 51, .indexAddr 23 (.tmp 49) (.tmp 50), 0, "ref.go:118", #[⟨17, .data⟩, ⟨18, .data⟩, ⟨16, .guard⟩], some (16, true)⟩ ?_ (.inl ⟨by rfl, ?_⟩) hS ?_
                rotate_left
                · (intro w hSw; (try dsimp only at hSw); go_simp; (try with_reducible rfl))
                try simp only [Act.put, sb, s0, sz]
                refine takeW 20 ⟨some 52, .load 9 (.tmp 51), 9, "ref.go:118", #[⟨19, .data⟩, ⟨16, .guard⟩], some (16, true)⟩ ?_ (.inl ⟨by rfl, ?_⟩) hS ?_
                rotate_left
                · (intro w hSw; (try dsimp only at hSw); go_simp; (try with_reducible rfl))
                try simp only [Act.put, sb, s0, sz]
                refine takeW 21 ⟨some 53, .binOp .neq 9 (.tmp 52) (.const (.string { data := #[] })) 9, 4, "ref.go:118", #[⟨20, .data⟩, ⟨16, .guard⟩], some (16, true)⟩ ?_ (.inl ⟨by rfl, ?_⟩) hS ?_
                rotate_left
                · (intro w hSw; (try dsimp only at hSw); go_simp; (try with_reducible rfl))
                try simp only [Act.put, sb, s0, sz]
                refine takeW 22 ⟨some 54, .pick (.tmp 48) (.tmp 53) (.const (.bool false)), 4, "ref.go:118", #[⟨16, .data⟩, ⟨21, .data⟩], none⟩ ?_ (.inl ⟨by rfl, ?_⟩) hS ?_
                rotate_left
                · (intro w hSw; (try dsimp only at hSw); go_simp; (try with_reducible rfl))
                try simp only [Act.put, sb, s0, sz]
                refine wpAnyH_done (by kernel_rfl) ?_ _
                clear hS hA
                go_wp2_with (first
                  | go_skip
                  | ((with_reducible (show Go.wpList _ _ _ (Go.Oper.mk _ (.load 3 _) _ _ _ _ :: _) _ _)); refine wpl_run rfl (w' := w7) (v := .int .i64 (kj : Int)) (by simp only [execOp, Act.eval]; simp [Nj.out _ hB.tail]) ?_))
                go_roundw
                case rel => exact ⟨j + 1, by omega, by first | rfl | simp, HB.out, hB.tail⟩
                case measure => simp [intOf] <;> omega
          · obtain rfl : j = ki.length := by omega
            cases hnm : isName nm with
            | false =>
              have HT := SL.hid (show atT 11 10 q t = (10, .zero) from by rw [HB2.out, HNo.out hnm])
              rw [hnm] at HNa
              clear HB2 HNo HF HG2 hnm
              rcases hfo with ⟨rfl, _⟩ | ⟨m, h1, h2, _, rfl, _, _⟩
              · go_wp2_with (first
                  | go_skip
                  | ((with_reducible (show Go.wpList _ _ _ (Go.Oper.mk _ (.load 9 _) _ _ _ _ :: _) _ _)); refine wpl_run rfl (w' := wr) (v := .string ⟨nm.toArray⟩) (by simp only [execOp, Act.eval]; simp [Nn.out _ hE.tail.tail.tail.tail]) ?_)
                  | (go_at_call 38; refine (HNa.out _).mono ?_; rintro e w9 ⟨rfl, rfl⟩)
                  | ((with_reducible (show Go.wpList _ _ _ (Go.Oper.mk _ (.store 41 _ _) _ _ _ _ :: _) _ _)); (first | (refine wpl_storeW hE 0 rfl rfl rfl (xs := [.string ⟨#[]⟩, .bool false, .string ⟨#[]⟩]) rfl rfl Tryd.sizeOf41 rfl (by simp [Value.oneCell']) rfl ?_) | (refine wpl_storeW hE 1 rfl rfl rfl (xs := [.string ⟨#[]⟩, .bool false, .string ⟨#[]⟩]) rfl rfl Tryd.sizeOf41 rfl (by simp [Value.oneCell']) rfl ?_) | (refine wpl_storeW hE 2 rfl rfl rfl (xs := [.string ⟨#[]⟩, .bool false, .string ⟨#[]⟩]) rfl rfl Tryd.sizeOf41 rfl (by simp [Value.oneCell']) rfl ?_) | (refine wpl_storeW hE 3 rfl rfl rfl (xs := [.string ⟨#[]⟩, .bool false, .string ⟨#[]⟩]) rfl rfl Tryd.sizeOf41 rfl (by simp [Value.oneCell']) rfl ?_) | (refine wpl_storeW hE 4 rfl rfl rfl (xs := [.string ⟨#[]⟩, .bool false, .string ⟨#[]⟩]) rfl rfl Tryd.sizeOf41 rfl (by simp [Value.oneCell']) rfl ?_) | (refine wpl_storeW hE 5 rfl rfl rfl (xs := [.string ⟨#[]⟩, .bool false, .string ⟨#[]⟩]) rfl rfl Tryd.sizeOf41 rfl (by simp [Value.oneCell']) rfl ?_) | (refine wpl_storeW hE 6 rfl rfl rfl (xs := [.string ⟨#[]⟩, .bool false, .string ⟨#[]⟩]) rfl rfl Tryd.sizeOf41 rfl (by simp [Value.oneCell']) rfl ?_) | (refine wpl_storeW hE 7 rfl rfl rfl (xs := [.string ⟨#[]⟩, .bool false, .string ⟨#[]⟩]) rfl rfl Tryd.sizeOf41 rfl (by simp [Value.oneCell']) rfl ?_)); clear hE; intro w hE; simp only [List.set_cons_zero, List.set_cons_succ] at hE))
                refine bodyPost_ret (results_cell2 rfl hE 2 rfl rfl Tryd.isAgg41 Tryd.sizeOf41 rfl rfl) rfl ?_
                exact ⟨_, rfl, [_, _, _, _], by rw [HT.out]; rfl, hE⟩
              · have hneg : ¬ ((ki[m] : Int) < 0) := by omega
                generalize ki[m] = kx at *
                go_wp2_with (first
                  | go_skip
                  | ((with_reducible (show Go.wpList _ _ _ (Go.Oper.mk _ (.load 9 _) _ _ _ _ :: _) _ _)); refine wpl_run rfl (w' := wr) (v := .string ⟨nm.toArray⟩) (by simp only [execOp, Act.eval]; simp [Nn.out _ hE.tail.tail.tail.tail]) ?_)
                  | (go_at_call 38; refine (HNa.out _).mono ?_; rintro e w9 ⟨rfl, rfl⟩)
                  | ((with_reducible (show Go.wpList _ _ _ (Go.Oper.mk _ (.store 41 _ _) _ _ _ _ :: _) _ _)); (first | (refine wpl_storeW hE 0 rfl rfl rfl (xs := [.string ⟨#[]⟩, .bool false, .string ⟨#[]⟩]) rfl rfl Tryd.sizeOf41 rfl (by simp [Value.oneCell']) rfl ?_) | (refine wpl_storeW hE 1 rfl rfl rfl (xs := [.string ⟨#[]⟩, .bool false, .string ⟨#[]⟩]) rfl rfl Tryd.sizeOf41 rfl (by simp [Value.oneCell']) rfl ?_) | (refine wpl_storeW hE 2 rfl rfl rfl (xs := [.string ⟨#[]⟩, .bool false, .string ⟨#[]⟩]) rfl rfl Tryd.sizeOf41 rfl (by simp [Value.oneCell']) rfl ?_) | (refine wpl_storeW hE 3 rfl rfl rfl (xs := [.string ⟨#[]⟩, .bool false, .string ⟨#[]⟩]) rfl rfl Tryd.sizeOf41 rfl (by simp [Value.oneCell']) rfl ?_) | (refine wpl_storeW hE 4 rfl rfl rfl (xs := [.string ⟨#[]⟩, .bool false, .string ⟨#[]⟩]) rfl rfl Tryd.sizeOf41 rfl (by simp [Value.oneCell']) rfl ?_) | (refine wpl_storeW hE 5 rfl rfl rfl (xs := [.string ⟨#[]⟩, .bool false, .string ⟨#[]⟩]) rfl rfl Tryd.sizeOf41 rfl (by simp [Value.oneCell']) rfl ?_) | (refine wpl_storeW hE 6 rfl rfl rfl (xs := [.string ⟨#[]⟩, .bool false, .string ⟨#[]⟩]) rfl rfl Tryd.sizeOf41 rfl (by simp [Value.oneCell']) rfl ?_) | (refine wpl_storeW hE 7 rfl rfl rfl (xs := [.string ⟨#[]⟩, .bool false, .string ⟨#[]⟩]) rfl rfl Tryd.sizeOf41 rfl (by simp [Value.oneCell']) rfl ?_)); clear hE; intro w hE; simp only [List.set_cons_zero, List.set_cons_succ] at hE))
                refine bodyPost_ret (results_cell2 rfl hE 2 rfl rfl Tryd.isAgg41 Tryd.sizeOf41 rfl rfl) rfl ?_
                exact ⟨_, rfl, [_, _, _, _], by rw [HT.out]; rfl, hE⟩
            | true =>
              rw [hnm] at HNa
              have hne : (nm == []) = false := by
                have := (name_len hnm).1
                cases nm with
                | nil => simp at this
                | cons a b => rfl
              rw [hne] at hfo
              have hfk := HF.out hnm _ hfo
              clear HF HNo hfo
              rcases hfk with ⟨rfl, hno⟩ | ⟨i, hi, k2, rfl, hk2, hLi⟩
              · have HT := SL.hid (show atT 11 10 q t = (10, .zero) from by rw [HB2.out, hno])
                clear HB2 HG2 hnm hne hno
                go_wp2_with (first
                  | go_skip
                  | ((with_reducible (show Go.wpList _ _ _ (Go.Oper.mk _ (.load 9 _) _ _ _ _ :: _) _ _)); refine wpl_run rfl (w' := wr) (v := .string ⟨nm.toArray⟩) (by simp only [execOp, Act.eval]; simp [Nn.out _ hE.tail.tail.tail.tail]) ?_)
                  | (go_at_call 38; refine (HNa.out _).mono ?_; rintro e w9 ⟨rfl, rfl⟩)
                  | ((with_reducible (show Go.wpList _ _ _ (Go.Oper.mk _ (.store 41 _ _) _ _ _ _ :: _) _ _)); (first | (refine wpl_storeW hE 0 rfl rfl rfl (xs := [.string ⟨#[]⟩, .bool false, .string ⟨#[]⟩]) rfl rfl Tryd.sizeOf41 rfl (by simp [Value.oneCell']) rfl ?_) | (refine wpl_storeW hE 1 rfl rfl rfl (xs := [.string ⟨#[]⟩, .bool false, .string ⟨#[]⟩]) rfl rfl Tryd.sizeOf41 rfl (by simp [Value.oneCell']) rfl ?_) | (refine wpl_storeW hE 2 rfl rfl rfl (xs := [.string ⟨#[]⟩, .bool false, .string ⟨#[]⟩]) rfl rfl Tryd.sizeOf41 rfl (by simp [Value.oneCell']) rfl ?_) | (refine wpl_storeW hE 3 rfl rfl rfl (xs := [.string ⟨#[]⟩, .bool false, .string ⟨#[]⟩]) rfl rfl Tryd.sizeOf41 rfl (by simp [Value.oneCell']) rfl ?_) | (refine wpl_storeW hE 4 rfl rfl rfl (xs := [.string ⟨#[]⟩, .bool false, .string ⟨#[]⟩]) rfl rfl Tryd.sizeOf41 rfl (by simp [Value.oneCell']) rfl ?_) | (refine wpl_storeW hE 5 rfl rfl rfl (xs := [.string ⟨#[]⟩, .bool false, .string ⟨#[]⟩]) rfl rfl Tryd.sizeOf41 rfl (by simp [Value.oneCell']) rfl ?_) | (refine wpl_storeW hE 6 rfl rfl rfl (xs := [.string ⟨#[]⟩, .bool false, .string ⟨#[]⟩]) rfl rfl Tryd.sizeOf41 rfl (by simp [Value.oneCell']) rfl ?_) | (refine wpl_storeW hE 7 rfl rfl rfl (xs := [.string ⟨#[]⟩, .bool false, .string ⟨#[]⟩]) rfl rfl Tryd.sizeOf41 rfl (by simp [Value.oneCell']) rfl ?_)); clear hE; intro w hE; simp only [List.set_cons_zero, List.set_cons_succ] at hE))
                refine bodyPost_ret (results_cell2 rfl hE 2 rfl rfl Tryd.isAgg41 Tryd.sizeOf41 rfl rfl) rfl ?_
                exact ⟨_, rfl, [_, _, _, _], by rw [HT.out]; rfl, hE⟩
              · have HT := SL.hid (show atT 11 10 q t = atT 11 10 (q.drop (k + 1)) k2 from by rw [HB2.out, hk2])
                have HG3 := SL.hid (HG2.out k2 hk2)
                obtain ⟨b, off, rfl, hz⟩ := en_at (hk _ hE.tail.tail.tail.tail) hi
                clear hz
                have ld := show ∀ w, Ent l w → (Instr.loadAt 41 (.pointer (some ⟨b, off + i * 3, none⟩))).run Tryd.prog w = .ok (.agg #[.string ⟨tgt.toArray⟩, .bool k2.dir, .string ⟨k2.data.toArray⟩]) w from fun w h => by
                  have := (load_en (hk _ h) hi).1
                  rwa [hLi] at this
                have Ld := SL.hid ld
                have hiI : (i : Int) < (L.length : Int) := by omega
                have hneg : ¬ ((i : Int) < 0) := by omega
                clear HB2 HG2 hnm hne hk2 hLi ld hk hn
                go_wp2_with (first
                  | go_skip
                  | ((with_reducible (show Go.wpList _ _ _ (Go.Oper.mk _ (.load 9 _) _ _ _ _ :: _) _ _)); refine wpl_run rfl (w' := wr) (v := .string ⟨nm.toArray⟩) (by simp only [execOp, Act.eval]; simp [Nn.out _ hE.tail.tail.tail.tail]) ?_)
                  | (go_at_call 38; refine (HNa.out _).mono ?_; rintro e w9 ⟨rfl, rfl⟩)
                  | ((with_reducible (show Go.wpList _ _ _ (Go.Oper.mk _ (.load 41 _) _ _ _ _ :: _) _ _)); refine wpl_run rfl (w' := _) (v := .agg #[.string ⟨tgt.toArray⟩, .bool k2.dir, .string ⟨k2.data.toArray⟩]) (by simp only [execOp, Act.eval]; simp [Ld.out _ hE.tail.tail.tail.tail]; rfl) ?_)
                  | ((with_reducible (show Go.wpList _ _ _ (Go.Oper.mk _ (.load _ _) _ _ _ _ :: _) _ _)); (first | (refine wpl_load1 hE 0 rfl rfl rfl rfl (by simp [go_sem]) rfl ?_) | (refine wpl_load1 hE 1 rfl rfl rfl rfl (by simp [go_sem]) rfl ?_) | (refine wpl_load1 hE 2 rfl rfl rfl rfl (by simp [go_sem]) rfl ?_) | (refine wpl_load1 hE 3 rfl rfl rfl rfl (by simp [go_sem]) rfl ?_) | (refine wpl_load1 hE 4 rfl rfl rfl rfl (by simp [go_sem]) rfl ?_) | (refine wpl_load1 hE 5 rfl rfl rfl rfl (by simp [go_sem]) rfl ?_) | (refine wpl_load1 hE 6 rfl rfl rfl rfl (by simp [go_sem]) rfl ?_) | (refine wpl_load1 hE 7 rfl rfl rfl rfl (by simp [go_sem]) rfl ?_)))
                  | ((with_reducible (show Go.wpList _ _ _ (Go.Oper.mk _ (.store 41 _ _) _ _ _ _ :: _) _ _)); (first | (refine wpl_storeW hE 0 rfl rfl rfl (xs := [.string ⟨tgt.toArray⟩, .bool k2.dir, .string ⟨k2.data.toArray⟩]) rfl rfl Tryd.sizeOf41 rfl (by simp [Value.oneCell']) rfl ?_) | (refine wpl_storeW hE 1 rfl rfl rfl (xs := [.string ⟨tgt.toArray⟩, .bool k2.dir, .string ⟨k2.data.toArray⟩]) rfl rfl Tryd.sizeOf41 rfl (by simp [Value.oneCell']) rfl ?_) | (refine wpl_storeW hE 2 rfl rfl rfl (xs := [.string ⟨tgt.toArray⟩, .bool k2.dir, .string ⟨k2.data.toArray⟩]) rfl rfl Tryd.sizeOf41 rfl (by simp [Value.oneCell']) rfl ?_) | (refine wpl_storeW hE 3 rfl rfl rfl (xs := [.string ⟨tgt.toArray⟩, .bool k2.dir, .string ⟨k2.data.toArray⟩]) rfl rfl Tryd.sizeOf41 rfl (by simp [Value.oneCell']) rfl ?_) | (refine wpl_storeW hE 4 rfl rfl rfl (xs := [.string ⟨tgt.toArray⟩, .bool k2.dir, .string ⟨k2.data.toArray⟩]) rfl rfl Tryd.sizeOf41 rfl (by simp [Value.oneCell']) rfl ?_) | (refine wpl_storeW hE 5 rfl rfl rfl (xs := [.string ⟨tgt.toArray⟩, .bool k2.dir, .string ⟨k2.data.toArray⟩]) rfl rfl Tryd.sizeOf41 rfl (by simp [Value.oneCell']) rfl ?_) | (refine wpl_storeW hE 6 rfl rfl rfl (xs := [.string ⟨tgt.toArray⟩, .bool k2.dir, .string ⟨k2.data.toArray⟩]) rfl rfl Tryd.sizeOf41 rfl (by simp [Value.oneCell']) rfl ?_) | (refine wpl_storeW hE 7 rfl rfl rfl (xs := [.string ⟨tgt.toArray⟩, .bool k2.dir, .string ⟨k2.data.toArray⟩]) rfl rfl Tryd.sizeOf41 rfl (by simp [Value.oneCell']) rfl ?_)); clear hE; intro w hE; simp only [List.set_cons_zero, List.set_cons_succ] at hE))
                go_roundw
                case rel => exact ⟨k + 1, k2, hlt, by first | rfl | simp, HG3.out, HT.out, by rw [Htgt.out]; exact hE.tail⟩
                case measure => simp [intOf] <;> omega
    · obtain rfl : k = q.length := by omega
      rw [List.drop_length] at hB
      have HT := SL.hid (show atT 11 10 q t = (0, p) from hB)
      rw [List.take_length] at hpx
      have Hpx := SL.hid hpx
      clear hB hpx hg
      generalize hpd : p.dir = pd at *
      generalize hpb : p.data = pb at *
      have Hpd := SL.hid hpd
      have Hpb := SL.hid hpb
      clear hpd hpb
      go_wp2_with (first
        | go_skip
        | ((with_reducible (show Go.wpList _ _ _ (Go.Oper.mk _ (.load 41 _) _ _ _ _ :: _) _ _)); (first | (refine wpl_loadW hE 0 rfl rfl rfl rfl Tryd.isAgg41 Tryd.sizeOf41 rfl ?_) | (refine wpl_loadW hE 1 rfl rfl rfl rfl Tryd.isAgg41 Tryd.sizeOf41 rfl ?_) | (refine wpl_loadW hE 2 rfl rfl rfl rfl Tryd.isAgg41 Tryd.sizeOf41 rfl ?_) | (refine wpl_loadW hE 3 rfl rfl rfl rfl Tryd.isAgg41 Tryd.sizeOf41 rfl ?_) | (refine wpl_loadW hE 4 rfl rfl rfl rfl Tryd.isAgg41 Tryd.sizeOf41 rfl ?_) | (refine wpl_loadW hE 5 rfl rfl rfl rfl Tryd.isAgg41 Tryd.sizeOf41 rfl ?_) | (refine wpl_loadW hE 6 rfl rfl rfl rfl Tryd.isAgg41 Tryd.sizeOf41 rfl ?_) | (refine wpl_loadW hE 7 rfl rfl rfl rfl Tryd.isAgg41 Tryd.sizeOf41 rfl ?_)))
        | ((with_reducible (show Go.wpList _ _ _ (Go.Oper.mk _ (.store 41 _ _) _ _ _ _ :: _) _ _)); (first | (refine wpl_storeW hE 0 rfl rfl rfl (xs := [.string ⟨px.toArray⟩, .bool pd, .string ⟨pb.toArray⟩]) rfl rfl Tryd.sizeOf41 rfl (by simp [Value.oneCell']) rfl ?_) | (refine wpl_storeW hE 1 rfl rfl rfl (xs := [.string ⟨px.toArray⟩, .bool pd, .string ⟨pb.toArray⟩]) rfl rfl Tryd.sizeOf41 rfl (by simp [Value.oneCell']) rfl ?_) | (refine wpl_storeW hE 2 rfl rfl rfl (xs := [.string ⟨px.toArray⟩, .bool pd, .string ⟨pb.toArray⟩]) rfl rfl Tryd.sizeOf41 rfl (by simp [Value.oneCell']) rfl ?_) | (refine wpl_storeW hE 3 rfl rfl rfl (xs := [.string ⟨px.toArray⟩, .bool pd, .string ⟨pb.toArray⟩]) rfl rfl Tryd.sizeOf41 rfl (by simp [Value.oneCell']) rfl ?_) | (refine wpl_storeW hE 4 rfl rfl rfl (xs := [.string ⟨px.toArray⟩, .bool pd, .string ⟨pb.toArray⟩]) rfl rfl Tryd.sizeOf41 rfl (by simp [Value.oneCell']) rfl ?_) | (refine wpl_storeW hE 5 rfl rfl rfl (xs := [.string ⟨px.toArray⟩, .bool pd, .string ⟨pb.toArray⟩]) rfl rfl Tryd.sizeOf41 rfl (by simp [Value.oneCell']) rfl ?_) | (refine wpl_storeW hE 6 rfl rfl rfl (xs := [.string ⟨px.toArray⟩, .bool pd, .string ⟨pb.toArray⟩]) rfl rfl Tryd.sizeOf41 rfl (by simp [Value.oneCell']) rfl ?_) | (refine wpl_storeW hE 7 rfl rfl rfl (xs := [.string ⟨px.toArray⟩, .bool pd, .string ⟨pb.toArray⟩]) rfl rfl Tryd.sizeOf41 rfl (by simp [Value.oneCell']) rfl ?_)); clear hE; intro w hE; simp only [List.set_cons_zero, List.set_cons_succ] at hE))
      refine bodyPost_ret (results_cell2 rfl hE 1 rfl rfl Tryd.isAgg41 Tryd.sizeOf41 rfl rfl) rfl ?_
      exact ⟨_, rfl, [_, _, _], by rw [HT.out]; simp only [Hpx.out, Hpd.out, Hpb.out, if_true]; rfl, hE⟩
end Go.Proofs.YtjmllpgmbaoebaaDoor
namespace Go.Proofs.YtjmllpgmbaoebaaDoor
open Go.RowKit Go.SL

theorem eqInf (n : List UInt8) (d : Bool) (k : Int) (w : World) : (Op.equalIn 10000 47 (.agg #[.string ⟨n.toArray⟩, .bool d, .int .i64 k]) (.agg #[.string ⟨n.toArray⟩, .bool d, .int .i64 k])).run Tryd.prog w = .ok true w := by
  have h := run_equalIn_agg (P := Tryd.prog) (w := w) 9999 47 #[.string ⟨n.toArray⟩, .bool d, .int .i64 k] #[.string ⟨n.toArray⟩, .bool d, .int .i64 k] (by kernel_rfl) (by kernel_rfl)
  refine h.trans ?_
  simp [go_sem]
theorem inC_len (x : List UInt8 × Tr) : (inC x).length = 3 := rfl
theorem inC_flat_len (xs : List (List UInt8 × Tr)) : (xs.flatMap inC).length = xs.length * 3 := flatMap_len inC 3 inC_len xs
/-- what is told of a kid, read whole -/
theorem load_inf {ao : Option Addr} {c : Nat} {ks : List (List UInt8 × Tr)} {w : World} (hr : reads (.slice ao ks.length c) ks.length (ks.flatMap inC) w) {k : Nat} (hk : k < ks.length) :
    ∃ b off, ao = some ⟨b, off, none⟩ ∧ (Instr.loadAt 47 (.pointer (some ⟨b, off + k * 3, none⟩))).run Tryd.prog w = .ok (.agg #[.string ⟨ks[k].1.toArray⟩, .bool ks[k].2.dir, .int .i64 ks[k].2.data.length]) w := by
  obtain ⟨b, off, rfl, hc⟩ := reads_form hr (by omega) (by rw [inC_flat_len]; omega)
  refine ⟨b, off, rfl, atCells Tryd.isAgg47 Tryd.sizeOf47 (inC ks[k]) rfl (fun j v hv => ?_)⟩
  rw [Addr.add_lit, Nat.add_assoc]
  exact hc _ _ (flatMap_at inC 3 inC_len ks k j ks[k] v (List.getElem?_eq_getElem hk) hv)
theorem load_inf2 {b off c : Nat} {ks : List (List UInt8 × Tr)} {w : World} (hr : reads (.slice (some ⟨b, off, none⟩) ks.length c) ks.length (ks.flatMap inC) w) {k : Nat} (hk : k < ks.length) :
    (Instr.loadAt 47 (.pointer (some ⟨b, off + k * 3, none⟩))).run Tryd.prog w = .ok (.agg #[.string ⟨ks[k].1.toArray⟩, .bool ks[k].2.dir, .int .i64 ks[k].2.data.length]) w := by
  obtain ⟨b', o', e, h⟩ := load_inf hr hk
  cases e
  exact h
theorem cut_at (pre n : List UInt8) : (⟨(pre ++ n).toArray⟩ : ByteArray).extract pre.length (pre ++ n).length = ⟨n.toArray⟩ := by
  rw [extract_mk, List.drop_left, List.take_of_length_le (by simp)]
/-- what stands ahead of a kid's name in its path -/
theorem pre_of {q : List (List UInt8)} (h : q.all isName = true) : ∃ pre : List UInt8, (∀ n, joinP (q ++ [n]) = pre ++ n) ∧ ((decide ((0 : Int) < ((joinP q).length : Int)) = false ∧ (decide (0 < (joinP q).length) = false) ∧ (¬ 0 < (joinP q).length) ∧ pre.length = (joinP q).length) ∨ (decide ((0 : Int) < ((joinP q).length : Int)) = true ∧ (decide (0 < (joinP q).length) = true) ∧ (0 < (joinP q).length) ∧ pre.length = (joinP q).length + 1)) := by
  by_cases h0 : q = []
  · subst h0
    exact ⟨[], fun n => by rw [List.nil_append, joinP_one]; rfl, .inl ⟨rfl, rfl, Nat.lt_irrefl 0, rfl⟩⟩
  · have := joinP_ne h0 h
    have : 0 < (joinP q).length := List.length_pos_iff.2 this
    exact ⟨joinP q ++ [47], fun n => by rw [joinP_end h0]; simp, .inr ⟨decide_eq_true (by omega), decide_eq_true this, this, by simp⟩⟩
theorem wf_file {d : Nat} {t : Tr} (h : Tr.Wf d t) (hd : t.dir = false) : t.kids = [] := by
  cases d with
  | zero => exact h.1
  | succ d => exact h.1 hd
end Go.Proofs.YtjmllpgmbaoebaaDoor
namespace Go.SL
theorem post_mark2 {P : Program} {fn : Func} {R : Ending → World → Prop} {a : Act} {w : World} {D : Nat} {l : List HProp} (hd : a.defers = [{ target := .collected D, args := #[] }]) (hE : Ent (pt D (.deferred (some [])) :: l) w)
    (h : ∀ w', Ent (pt D (.deferred none) :: l) w' → ∃ v, (results fn a.tmps).run P w' = .ok v w' ∧ R (.returned v) w') : bodyPostM Fence.wide 0 P fn R .ret a w := by
  show LeavesInM Fence.wide 0 P fn a.tmps R a.defers .returning w
  rw [hd]
  refine ⟨by simp, .inl ⟨_, _, rfl, run_takeDeferred hE.head, ?_⟩⟩
  exact h _ (hE.setMap 0 (ob' := .deferred none) rfl)
/-- what a range over a function leaves behind, before and behind the function's end -/
def anyD (D : Nat) : HProp := ex fun z : { o : Obj // o = .deferred (some []) ∨ o = .deferred none } => [pt D z.1]
theorem anyD_some {D : Nat} {l : List HProp} {w : World} (h : Ent (pt D (.deferred (some [])) :: l) w) : Ent (anyD D :: l) w := Ent.pack (f := fun z : { o : Obj // o = .deferred (some []) ∨ o = .deferred none } => [pt D z.1]) ⟨_, .inl rfl⟩ h
theorem anyD_none {D : Nat} {l : List HProp} {w : World} (h : Ent (pt D (.deferred none) :: l) w) : Ent (anyD D :: l) w := Ent.pack (f := fun z : { o : Obj // o = .deferred (some []) ∨ o = .deferred none } => [pt D z.1]) ⟨_, .inr rfl⟩ h
theorem knows_anyD {D : Nat} {l : List HProp} {v : Value} {n : Nat} {xs : List Value} (h : Knows (pt D (.deferred (some [])) :: l) (reads v n xs)) : Knows (anyD D :: l) (reads v n xs) := by
  intro w hE
  obtain ⟨⟨o, ho⟩, hE⟩ := hE.unpack
  rcases ho with rfl | rfl
  · exact h w hE
  · have h2 := h _ (hE.setMap 0 (ob' := .deferred (some [])) rfl)
    have hD : w.heap[D]? = some (.deferred none) := hE.at 0 rfl
    obtain ⟨ao, c, e, h3, h4⟩ := h2
    refine ⟨ao, c, e, h3, fun ad had j u hu => ?_⟩
    have h5 := h4 ad had j u hu
    have hb : (ad.add j).block ≠ D := by
      intro hb
      have hlt : D < w.heap.size := (Array.getElem?_eq_some_iff.1 hD).1
      have e2 : ({ w with heap := w.heap.setIfInBounds D (.deferred (some [])) } : World).heap[(ad.add j).block]? = some (.deferred (some [])) := by
        rw [hb]
        simp [hlt]
      unfold World.cell? at h5
      rw [e2] at h5
      cases h5
    have e3 : ({ w with heap := w.heap.setIfInBounds D (.deferred (some [])) } : World).heap[(ad.add j).block]? = w.heap[(ad.add j).block]? := by
      simp [Array.getElem?_setIfInBounds, Ne.symm hb]
    unfold World.cell? at h5 ⊢
    rw [e3] at h5
    exact h5
end Go.SL
namespace Go.Proofs.YtjmllpgmbaoebaaDoor
open Go.RowKit Go.SL

set_option maxRecDepth 100000 in
theorem Build_all {es : List En} (hb : ∀ x ∈ es, x.path.length ≤ 1000000 ∧ x.data.length ≤ 1000000) {ao : Option Addr} {c : Nat} {l : List HProp} {w : World} (hk : Knows l (reads (.slice ao es.length c) es.length (es.flatMap enC))) (hE : Ent l w) :
    Calls Tryd.prog 10 #[.slice ao es.length c] w (Ret fun v w' => ∃ m kv, v = .tuple #[nodeV (buildT es).2 kv, .int .i64 (buildT es).1] ∧ Ent (m ++ l) w' ∧ KidsAt (m ++ l) kv (buildT es).2.kids) := by
  cases h64 : decide ((64 : Int) < (es.length : Int)) with
  | true =>
    have hT : buildT es = (6, .zero) := by rw [buildT, if_pos (by have := of_decide_eq_true h64; omega)]
    rw [hT]
    clear hb hk hT
    go_enter Tryd.func10, Tryd.ntmps10
    go_wp2_with (first
      | go_skip
      | ((with_reducible (show Go.wpList _ _ _ (Go.Oper.mk _ (.alloc _) _ _ _ _ :: _) _ _)); refine wpl_alloc hE rfl rfl (by simp [go_sem]; rfl) ?_; clear hE; intro b2 w hE; simp only [Act.eval, Act.put, List.setIfInBounds_toArray, List.set_cons_zero, List.set_cons_succ, getD_lit, List.getD_cons_succ, List.getD_cons_zero, Value.cells] at hE)
      | ((with_reducible (show Go.wpList _ _ _ (Go.Oper.mk _ (.store 28 _ _) _ _ _ _ :: _) _ _)); (first | (refine wpl_storeW hE 0 rfl rfl rfl (xs := [.bool false, .string ⟨#[]⟩, .slice none 0 0]) rfl rfl Tryd.sizeOf28 rfl (by simp [Value.oneCell']) rfl ?_) | (refine wpl_storeW hE 1 rfl rfl rfl (xs := [.bool false, .string ⟨#[]⟩, .slice none 0 0]) rfl rfl Tryd.sizeOf28 rfl (by simp [Value.oneCell']) rfl ?_) | (refine wpl_storeW hE 2 rfl rfl rfl (xs := [.bool false, .string ⟨#[]⟩, .slice none 0 0]) rfl rfl Tryd.sizeOf28 rfl (by simp [Value.oneCell']) rfl ?_) | (refine wpl_storeW hE 3 rfl rfl rfl (xs := [.bool false, .string ⟨#[]⟩, .slice none 0 0]) rfl rfl Tryd.sizeOf28 rfl (by simp [Value.oneCell']) rfl ?_) | (refine wpl_storeW hE 4 rfl rfl rfl (xs := [.bool false, .string ⟨#[]⟩, .slice none 0 0]) rfl rfl Tryd.sizeOf28 rfl (by simp [Value.oneCell']) rfl ?_) | (refine wpl_storeW hE 5 rfl rfl rfl (xs := [.bool false, .string ⟨#[]⟩, .slice none 0 0]) rfl rfl Tryd.sizeOf28 rfl (by simp [Value.oneCell']) rfl ?_) | (refine wpl_storeW hE 6 rfl rfl rfl (xs := [.bool false, .string ⟨#[]⟩, .slice none 0 0]) rfl rfl Tryd.sizeOf28 rfl (by simp [Value.oneCell']) rfl ?_) | (refine wpl_storeW hE 7 rfl rfl rfl (xs := [.bool false, .string ⟨#[]⟩, .slice none 0 0]) rfl rfl Tryd.sizeOf28 rfl (by simp [Value.oneCell']) rfl ?_)); clear hE; intro w hE; simp only [List.set_cons_zero, List.set_cons_succ] at hE))
    refine bodyPost_ret (results_cell2 rfl hE 0 rfl rfl Tryd.isAgg28 Tryd.sizeOf28 rfl rfl) rfl ?_
    exact ⟨_, rfl, [], .slice none 0 0, rfl, hE.tail, KidsAt.nil _⟩
  | false => exact Build_any (by have := of_decide_eq_false h64; omega) hb hk hE

def sufP (s : List UInt8) : Bool := Lib.hasSuffix s [10]
def trimP (s : List UInt8) : List UInt8 := Lib.trimSuffix s [10]
def okL (x : List UInt8) : Bool := (entryP x).2
def entL (x : List UInt8) : En := (entryP x).1
/-- the entries of a text -/
def parse (s : List UInt8) : Option (List En) := if s = [] then some [] else if sufP s = true ∧ (cutsN (trimP s)).all okL = true then some ((cutsN (trimP s)).map entL) else none
/-- the tree of a text, or why there is none -/
def takeP (s : List UInt8) : Int × Tr := match parse s with
  | none => (3, .zero)
  | some es => if (buildT es).1 ≠ 0 then ((buildT es).1, .zero) else if linesP (entT 6 [] (buildT es).2) = s then (0, (buildT es).2) else (3, .zero)
theorem entL_len (x : List UInt8) : (entL x).path.length ≤ x.length ∧ (entL x).data.length ≤ x.length := by
  unfold entL entryP
  have h1 := cutPx_len x [100, 32]
  have h2 := cutPx_len x [102, 32]
  have h3 := cutSp_len (cutPx x [102, 32])
  split
  · exact ⟨h1, by simp⟩
  · refine ⟨by simp only; omega, ?_⟩
    simp only
    cases h : unq (cutSp (cutPx x [102, 32])).2.1 with
    | none => simp
    | some b =>
      have := unq_iff.1 h
      have h4 := (quoteP_len b).1
      rw [← this] at h4
      simp only [Option.getD_some]
      omega
def TkPost (s : List UInt8) (l : List HProp) (v : Value) (w' : World) : Prop := ∃ (m : List HProp) (kv : Value), v = .tuple #[nodeV (takeP s).2 kv, .int .i64 (takeP s).1] ∧ Ent (m ++ l) w' ∧ KidsAt (m ++ l) kv (takeP s).2.kids
end Go.Proofs.YtjmllpgmbaoebaaDoor
namespace Go.Proofs.YtjmllpgmbaoebaaDoor
open Go.RowKit Go.SL

attribute [local go_sem] Oper.semAt_some wide_fn wide_depth
def anyN (b : Nat) : HProp := ex fun z : Value × Value × Value => [pt b (.cells #[z.1, z.2.1, z.2.2] 28)]
theorem anyN_of {b : Nat} {x y z : Value} {l : List HProp} {w : World} (h : Ent (pt b (.cells #[x, y, z] 28) :: l) w) : Ent (anyN b :: l) w := Ent.pack (f := fun z : Value × Value × Value => [pt b (.cells #[z.1, z.2.1, z.2.2] 28)]) (x, y, z) h
theorem KidsAt.monoR {l m : List HProp} (h : ∀ v n xs, Knows l (reads v n xs) → Knows m (reads v n xs)) {v : Value} {ks : List (List UInt8 × Tr)} (hk : KidsAt l v ks) : KidsAt m v ks := by
  induction hk with
  | mk ao c ks vs hc hl hr _ ih => exact .mk ao c ks vs hc hl (h _ _ _ hr) ih
def tkI (s : List UInt8) (b1 b2 b4 b5 : Nat) (g0 : Bool) (l : List HProp) (pre : List (List UInt8)) : List HProp :=
  pt b1 (.cells #[.string ⟨s.toArray⟩] 9) :: pt b2 (.cells #[.bool false, .string ⟨#[]⟩, .slice none 0 0] 28) :: pt b5 (.cells #[.bool g0] 4) ::
    (ex fun z : { _z : Option Addr × Nat // pre.all okL = true } => [pt b4 (.cells #[.slice z.1.1 (pre.map entL).length z.1.2] 22), rowEn z.1.1 z.1.2 (pre.map entL)]) :: l
def tkX (s : List UInt8) (b1 b2 b5 : Nat) (l : List HProp) (c : Code) (pre : List (List UInt8)) : List HProp :=
  pt b1 (.cells #[.string ⟨s.toArray⟩] 9) :: pt b2 (.cells #[.bool false, .string ⟨#[]⟩, .slice none 0 0] 28) :: pt b5 (.cells #[.bool false] 4) ::
    (ex fun _ : c = .exit 0 ∧ pre.all okL = false => []) :: l
theorem takeP_none {s : List UInt8} (h : parse s = none) : takeP s = (3, .zero) := by rw [takeP, h]
/-- when no tree was made -/
theorem TkPost.bad {s : List UInt8} {er : Int} {l : List HProp} {w : World} (h : takeP s = (er, .zero)) (hE : Ent l w) : TkPost s l (.tuple #[.agg #[.bool false, .string ⟨#[]⟩, .slice none 0 0], .int .i64 er]) w := by
  refine ⟨[], .slice none 0 0, ?_, hE, ?_⟩
  · rw [h]; rfl
  · rw [h]; exact KidsAt.nil _
set_option maxRecDepth 100000 in
set_option maxHeartbeats 8000000 in
attribute [-go_sem] Instr.loadAt in
theorem Take_some {s : List UInt8} (hs : s.length ≤ 10000000) (hx : ∀ x ∈ cutsN (trimP s), x.length ≤ 1000000) (h0 : s ≠ []) {l : List HProp} {w : World} (hE : Ent l w) :
    Calls Tryd.prog 26 #[.string ⟨s.toArray⟩] w (Ret (TkPost s l)) := by
  have hne : (s == []) = false := by simpa using h0
  have HS := SL.hid (sufx_any s [10] (by omega))
  have HT := SL.hid (trim_any s [10] (by omega))
  have htl : (trimP s).length ≤ 10000000 := by
    unfold trimP Lib.trimSuffix
    split
    · rw [List.length_take]; omega
    · omega
  change Hid (∀ w, Calls _ _ _ w fun e w' => e = .returned (.bool (sufP s)) ∧ w' = w) at HS
  change Hid (∀ w, Calls _ _ _ w fun e w' => e = .returned (.string ⟨(trimP s).toArray⟩) ∧ w' = w) at HT
  have Hps := SL.hid (show parse s = if sufP s = true ∧ (cutsN (trimP s)).all okL = true then some ((cutsN (trimP s)).map entL) else none by rw [parse, if_neg h0])
  have Hx := SL.hid hx
  clear hx
  generalize trimP s = p at *
  generalize sufP s = g0 at *
  refine calls_of_marks Tryd.func26 rfl ?_
  simp only [Tryd.ntmps26, List.size_toArray, List.length_cons, List.length_nil, Nat.reduceAdd, Nat.reduceSub, Array.replicate_succ, Array.replicate_zero, List.push_toArray, List.append_toArray, List.nil_append, List.cons_append]
  go_wp2_with (first
    | go_skip
    | ((with_reducible (show Go.wpList _ _ _ (Go.Oper.mk _ (.box _ _) _ _ _ _ :: _) _ _)); refine wpl_box hE rfl rfl rfl ?_; clear hE; intro b1 w hE1)
    | ((with_reducible (show Go.wpList _ _ _ (Go.Oper.mk _ (.alloc 28) _ _ _ _ :: _) _ _)); refine wpl_alloc hE1 rfl rfl (by simp [go_sem]; rfl) ?_; clear hE1; intro b2 w hE; simp only [Act.eval, Act.put, List.setIfInBounds_toArray, List.set_cons_zero, List.set_cons_succ, getD_lit, List.getD_cons_succ, List.getD_cons_zero, Value.cells] at hE))
  go_step3
  go_wp2_with (first
    | go_skip
    | ((with_reducible (show Go.wpList _ _ _ (Go.Oper.mk _ (.alloc 22) _ _ _ _ :: _) _ _)); refine wpl_alloc hE rfl rfl (by simp [go_sem]; rfl) ?_; clear hE; intro b4 w hE; simp only [Act.eval, Act.put, List.setIfInBounds_toArray, List.set_cons_zero, List.set_cons_succ, getD_lit, List.getD_cons_succ, List.getD_cons_zero, Value.cells] at hE)
    | ((with_reducible (show Go.wpList _ _ _ (Go.Oper.mk _ (.alloc 4) _ _ _ _ :: _) _ _)); refine wpl_alloc hE rfl rfl (by simp [go_sem]; rfl) ?_; clear hE; intro b5 w hE; simp only [Act.eval, Act.put, List.setIfInBounds_toArray, List.set_cons_zero, List.set_cons_succ, getD_lit, List.getD_cons_succ, List.getD_cons_zero, Value.cells] at hE)
    | ((with_reducible (show Go.wpList _ _ _ (Go.Oper.mk _ (.load _ _) _ _ _ _ :: _) _ _)); refine wpl_load1 hE 2 rfl rfl rfl rfl (by simp [go_sem]) rfl ?_)
    | ((with_reducible (show Go.wpList _ _ _ (Go.Oper.mk _ (.store _ _ _) _ _ _ _ :: _) _ _)); (first | (refine wpl_st1 hE 0 rfl rfl rfl rfl rfl (by first | (simp [go_sem]; done) | (simp [go_sem]; rfl)) rfl rfl (by simp) ?_) | (refine wpl_st1 hE 1 rfl rfl rfl rfl rfl (by first | (simp [go_sem]; done) | (simp [go_sem]; rfl)) rfl rfl (by simp) ?_) | (refine wpl_st1 hE 2 rfl rfl rfl rfl rfl (by first | (simp [go_sem]; done) | (simp [go_sem]; rfl)) rfl rfl (by simp) ?_) | (refine wpl_st1 hE 3 rfl rfl rfl rfl rfl (by first | (simp [go_sem]; done) | (simp [go_sem]; rfl)) rfl rfl (by simp) ?_) | (refine wpl_st1 hE 4 rfl rfl rfl rfl rfl (by first | (simp [go_sem]; done) | (simp [go_sem]; rfl)) rfl rfl (by simp) ?_) | (refine wpl_st1 hE 5 rfl rfl rfl rfl rfl (by first | (simp [go_sem]; done) | (simp [go_sem]; rfl)) rfl rfl (by simp) ?_) | (refine wpl_st1 hE 6 rfl rfl rfl rfl rfl (by first | (simp [go_sem]; done) | (simp [go_sem]; rfl)) rfl rfl (by simp) ?_) | (refine wpl_st1 hE 7 rfl rfl rfl rfl rfl (by first | (simp [go_sem]; done) | (simp [go_sem]; rfl)) rfl rfl (by simp) ?_)); clear hE; intro w hE; simp only [Act.eval, getD_lit, List.getD_cons_succ, List.getD_cons_zero, List.set_cons_zero, List.set_cons_succ] at hE)
    | (go_at_call 42; refine (HS.out _).mono ?_; clear HS; rintro e w2 ⟨rfl, rfl⟩))
  go_step3
  go_wp2_with (first
    | go_skip
    | ((with_reducible (show Go.wpList _ _ _ (Go.Oper.mk _ (.load _ _) _ _ _ _ :: _) _ _)); refine wpl_load1 hE 3 rfl rfl rfl rfl (by simp [go_sem]) rfl ?_)
    | (go_at_call 44; refine (HT.out _).mono ?_; clear HT; rintro e w2 ⟨rfl, rfl⟩)
    | (go_at_call 43; refine (SplitSeqN_any p hE).mono ?_; clear hE; rintro e w2 ⟨v, rfl, bs, bsep, bsave, rfl, hE4⟩))
  refine wpIn_wide.1 (wpIn_rangeSL (gf := 71) rfl (enters_of Tryd.func71 (by kernel_rfl) rfl) (splitN_iter p (by omega) bs bsep bsave) (fun _ => rfl) (tkI s b1 b2 b4 b5 g0 l) (tkX s b1 b2 b5 l) ?e0
    (fun x => { tmps := #[.string ⟨s.toArray⟩, .pointer (some ⟨b1, 0, none⟩), .pointer (some ⟨b2, 0, none⟩), .int .i64 0, .pointer (some ⟨b4, 0, none⟩), .pointer (some ⟨b5, 0, none⟩), .string ⟨x.toArray⟩, undef, undef, undef, undef, .string ⟨s.toArray⟩, .bool false, .bool false, .string ⟨s.toArray⟩, .bool g0, .bool g0, .string ⟨s.toArray⟩, .string ⟨p.toArray⟩, .func (.func 71) #[] #[.pointer (some ⟨bsep, 0, none⟩), .pointer (some ⟨bs, 0, none⟩), .pointer (some ⟨bsave, 0, none⟩)], .string ⟨x.toArray⟩, undef, undef, undef, undef, undef, undef, undef, undef, undef, undef, undef, undef, undef, undef, undef, undef, undef, undef, undef, undef, undef, undef, undef, undef, undef, undef, undef, undef, undef, undef, undef], defers := [] }) ?assign ?body ?done ?stop)
  case e0 =>
    have h := ((hE4.nil 41 3).front 5 rfl)
    have h2 := Ent.pack (f := fun z : { _z : Option Addr × Nat // ([] : List (List UInt8)).all okL = true } => [pt b4 (.cells #[.slice z.1.1 (([] : List (List UInt8)).map entL).length z.1.2] 22), rowEn z.1.1 z.1.2 (([] : List (List UInt8)).map entL)]) ⟨(none, 0), rfl⟩ h
    exact (((((h2.front 4 rfl).front 5 rfl).front 6 rfl).front 6 rfl).front 6 rfl).front 6 rfl
  case assign =>
    intro lp x W K hK
    gi_wp2
    exact hK
  case body =>
    intro lp pre x W L hpre hW
    obtain ⟨⟨⟨ao, c⟩, hall⟩, hW'⟩ := (hW.front 3 rfl).unpack
    have Hall := SL.hid hall
    replace hW : Ent (pt b4 (.cells #[.slice ao (pre.map entL).length c] 22) :: rowEn ao c (pre.map entL) :: pt b1 (.cells #[.string ⟨s.toArray⟩] 9) :: pt b2 (.cells #[.bool false, .string ⟨#[]⟩, .slice none 0 0] 28) :: pt b5 (.cells #[.bool g0] 4) :: (l ++ L)) W := hW'
    clear hW' hall
    have hxm : x ∈ cutsN p := by
      obtain ⟨t, ht⟩ := hpre
      rw [← ht]; simp
    have hxl := (cutsN_len p).2 x hxm
    have hpl : (pre.map entL).length ≤ 10000001 := by
      have h1 := hpre.length_le
      have h2 := (cutsN_len p).1
      simp at h1 ⊢
      omega
    clear hpre hxm
    have HX := SL.hid (fun (L : List HProp) (w : World) (h : Ent L w) => entryOf_any (x := x) (by omega) h)
    have Hok := SL.hid (show okL x = (entryP x).2 from rfl)
    have Hen := SL.hid (show entL x = (entryP x).1 from rfl)
    have e1 : ((pre ++ [x]).map entL).length = (pre.map entL).length + 1 := by simp
    have e2 : ((pre ++ [x]).map entL).flatMap enC = (pre.map entL).flatMap enC ++ enC (entryP x).1 := by simp [Hen.out]
    have E1 := SL.hid e1
    have E2 := SL.hid e2
    clear e1 e2
    simp only [enV] at HX
    generalize (entryP x).1 = y at *
    obtain ⟨yp, yd, yb⟩ := y
    simp only at HX
    generalize hq : (entryP x).2 = ok at *
    clear hq
    cases ok with
    | false =>
      gi_wp2_with (first
        | (refine wplIn_one rfl rfl rfl (by intro c h; cases h) (by rintro ⟨_, _, h⟩; exact h) ?_; (with_reducible (show Go.wpList _ _ _ (Go.Oper.mk _ (.load _ _) _ _ _ _ :: _) _ _)); refine wpl_load1 hW 2 rfl rfl rfl rfl (by simp [go_sem]) rfl ?_; refine wplIn_nil ?_)
        | (gi_at_call 45; refine (CallsIn.inRound lp (callsIn_wide.2 (HX.out _ _ hW))).mono ?_; clear hW; rintro e w' ⟨v, rfl, rfl, hW⟩)
        | (refine wplIn_one rfl rfl rfl (by intro c h; cases h) (by rintro ⟨_, _, h⟩; exact h) ?_; (with_reducible (show Go.wpList _ _ _ (Go.Oper.mk _ (.alloc _) _ _ _ _ :: _) _ _)); refine wpl_alloc hW rfl rfl (by simp [go_sem]; rfl) ?_; clear hW; intro b7 w hW; simp only [Act.eval, Act.put, List.setIfInBounds_toArray, List.set_cons_zero, List.set_cons_succ, getD_lit, List.getD_cons_succ, List.getD_cons_zero, Value.cells] at hW; refine wplIn_nil ?_)
        | (refine wplIn_one rfl rfl rfl (by intro c h; cases h) (by rintro ⟨_, _, h⟩; exact h) ?_; (with_reducible (show Go.wpList _ _ _ (Go.Oper.mk _ (.store 41 _ _) _ _ _ _ :: _) _ _)); refine wpl_storeW hW 0 rfl rfl rfl (xs := [.string ⟨yp.toArray⟩, .bool yd, .string ⟨yb.toArray⟩]) rfl rfl Tryd.sizeOf41 rfl (by simp [Value.oneCell']) rfl ?_; clear hW; intro w hW; simp only [List.set_cons_zero] at hW; refine wplIn_nil ?_)
        | (refine wplIn_one rfl rfl rfl (by intro c h; cases h) (by rintro ⟨_, _, h⟩; exact h) ?_; (with_reducible (show Go.wpList _ _ _ (Go.Oper.mk _ (.store 4 _ _) _ _ _ _ :: _) _ _)); refine wpl_st1 hW 5 rfl rfl rfl rfl rfl (by first | (simp [go_sem]; done) | (simp [go_sem]; rfl)) rfl rfl (by simp) ?_; clear hW; intro w hW; simp only [Act.eval, getD_lit, List.getD_cons_succ, List.getD_cons_zero, List.set_cons_zero, List.set_cons_succ] at hW; refine wplIn_nil ?_))
      have hF := hW.tail.tail.tail
      have hG := Ent.pack (f := fun _ : Code.exit 0 = .exit 0 ∧ (pre ++ [x]).all okL = false => []) ⟨rfl, List.all_eq_false.2 ⟨x, by simp, by simp [Hok.out]⟩⟩ hF
      exact ((hG.front 3 rfl).front 3 rfl).front 3 rfl
    | true =>
      gi_wp2_with (first
        | (refine wplIn_one rfl rfl rfl (by intro c h; cases h) (by rintro ⟨_, _, h⟩; exact h) ?_; (with_reducible (show Go.wpList _ _ _ (Go.Oper.mk _ (.load 9 _) _ _ _ _ :: _) _ _)); refine wpl_load1 hW 2 rfl rfl rfl rfl (by simp [go_sem]) rfl ?_; refine wplIn_nil ?_)
        | (gi_at_call 45; refine (CallsIn.inRound lp (callsIn_wide.2 (HX.out _ _ hW))).mono ?_; clear hW; rintro e w' ⟨v, rfl, rfl, hW⟩)
        | (refine wplIn_one rfl rfl rfl (by intro c h; cases h) (by rintro ⟨_, _, h⟩; exact h) ?_; (with_reducible (show Go.wpList _ _ _ (Go.Oper.mk _ (.alloc _) _ _ _ _ :: _) _ _)); refine wpl_alloc hW rfl rfl (by simp [go_sem]; rfl) ?_; clear hW; intro b7 w hW; simp only [Act.eval, Act.put, List.setIfInBounds_toArray, List.set_cons_zero, List.set_cons_succ, getD_lit, List.getD_cons_succ, List.getD_cons_zero, Value.cells] at hW; refine wplIn_nil ?_)
        | (refine wplIn_one rfl rfl rfl (by intro c h; cases h) (by rintro ⟨_, _, h⟩; exact h) ?_; (with_reducible (show Go.wpList _ _ _ (Go.Oper.mk _ (.store 41 _ _) _ _ _ _ :: _) _ _)); refine wpl_storeW hW 0 rfl rfl rfl (xs := [.string ⟨yp.toArray⟩, .bool yd, .string ⟨yb.toArray⟩]) rfl rfl Tryd.sizeOf41 rfl (by simp [Value.oneCell']) rfl ?_; clear hW; intro w hW; simp only [List.set_cons_zero] at hW; refine wplIn_nil ?_)
        | (refine wplIn_one rfl rfl rfl (by intro c h; cases h) (by rintro ⟨_, _, h⟩; exact h) ?_; (with_reducible (show Go.wpList _ _ _ (Go.Oper.mk _ (.load 22 _) _ _ _ _ :: _) _ _)); refine wpl_load1 hW 1 rfl rfl rfl rfl (by simp [go_sem]) rfl ?_; refine wplIn_nil ?_)
        | (refine wplIn_one rfl rfl rfl (by intro c h; cases h) (by rintro ⟨_, _, h⟩; exact h) ?_; (with_reducible (show Go.wpList _ _ _ (Go.Oper.mk _ (.load 41 _) _ _ _ _ :: _) _ _)); refine wpl_loadW hW 0 rfl rfl rfl rfl Tryd.isAgg41 Tryd.sizeOf41 rfl ?_; refine wplIn_nil ?_)
        | (refine wplIn_one rfl rfl rfl (by intro c h; cases h) (by rintro ⟨_, _, h⟩; exact h) ?_; (with_reducible (show Go.wpList _ _ _ (Go.Oper.mk _ (.buildSlice _ _ _) _ _ _ _ :: _) _ _)); refine wpl_build1 hW rfl rfl (xs := enC ⟨yp, yd, yb⟩) rfl Tryd.underlying22 zs_en Tryd.sizeOf41 (by decide) (by decide) rfl ?_; clear hW; intro b9 w3 hW; refine wplIn_nil ?_)
        | (refine wplIn_one rfl rfl rfl (by intro c h; cases h) (by rintro ⟨_, _, h⟩; exact h) ?_; (with_reducible (show Go.wpList _ _ _ (Go.Oper.mk _ (.call { callee := .builtin .append, args := _, argTypes := _ }) _ _ _ _ :: _) _ _)); refine wpl_appendG hW 3 rfl rfl rfl rfl rfl Tryd.underlying22 info_en (by decide) (m := 1) (news := enC ⟨yp, yd, yb⟩) (reads_pt hW 0 rfl (off := 0) (fun j u hu => by rw [Nat.zero_add, List.getElem?_toArray]; exact hu)) rfl (enC_one _) (by omega) (by omega) ?_; clear hW; intro ao' c' w6 hW; simp only [List.set_cons_zero, List.set_cons_succ] at hW; refine wplIn_nil ?_)
        | (refine wplIn_one rfl rfl rfl (by intro c h; cases h) (by rintro ⟨_, _, h⟩; exact h) ?_; (with_reducible (show Go.wpList _ _ _ (Go.Oper.mk _ (.store 22 _ _) _ _ _ _ :: _) _ _)); refine wpl_st1 hW 2 rfl rfl rfl rfl rfl (by first | (simp [go_sem]; done) | (simp [go_sem]; rfl)) rfl rfl (by simp) ?_; clear hW; intro w hW; simp only [Act.eval, getD_lit, List.getD_cons_succ, List.getD_cons_zero, List.set_cons_zero, List.set_cons_succ] at hW; refine wplIn_nil ?_))
      have hF := hW.tail.tail
      have hG := Ent.pack (f := fun z : { _z : Option Addr × Nat // (pre ++ [x]).all okL = true } => [pt b4 (.cells #[.slice z.1.1 ((pre ++ [x]).map entL).length z.1.2] 22), rowEn z.1.1 z.1.2 ((pre ++ [x]).map entL)]) ⟨(ao', c'), by rw [List.all_append, Hall.out]; simp [Hok.out]⟩ (by simp only [rowEn, E1.out, E2.out]; exact hF)
      exact ((hG.front 3 rfl).front 3 rfl).front 3 rfl
  case done =>
    intro D W hW
    obtain ⟨⟨⟨ao, c⟩, hall⟩, hW'⟩ := (hW.front 4 rfl).unpack
    cases g0 with
    | false =>
      have R := SL.hid (takeP_none (show parse s = none by rw [Hps.out, if_neg (by simp)]))
      replace hW : Ent (pt D (.deferred (some [])) :: pt b1 (.cells #[.string ⟨s.toArray⟩] 9) :: pt b2 (.cells #[.bool false, .string ⟨#[]⟩, .slice none 0 0] 28) :: pt b5 (.cells #[.bool false] 4) :: l) W := hW'.tail.tail
      clear hW' hall
      go_wp2_with (first
        | go_skip
        | ((with_reducible (show Go.wpList _ _ _ (Go.Oper.mk _ (.load _ _) _ _ _ _ :: _) _ _)); refine wpl_load1 hW 3 rfl rfl rfl rfl (by simp [go_sem]) rfl ?_)
        | ((with_reducible (show Go.wpList _ _ _ (Go.Oper.mk _ (.store 28 _ _) _ _ _ _ :: _) _ _)); refine wpl_storeW hW 2 rfl rfl rfl (xs := [.bool false, .string ⟨#[]⟩, .slice none 0 0]) rfl rfl Tryd.sizeOf28 rfl (by simp [Value.oneCell']) rfl ?_; clear hW; intro w hW; simp only [List.set_cons_zero, List.set_cons_succ] at hW))
      refine post_mark rfl hW (fun w' hw' => ⟨_, results_cell2 (v := .int .i64 3) rfl hw' 1 rfl rfl Tryd.isAgg28 Tryd.sizeOf28 rfl rfl, _, rfl, TkPost.bad R.out hw'.tail.tail.tail⟩)
    | true =>
      obtain ⟨es, hes⟩ : ∃ es, es = (cutsN p).map entL := ⟨_, rfl⟩
      have Hes := SL.hid (show parse s = some es by rw [Hps.out, if_pos ⟨rfl, hall⟩, hes])
      have hbe : ∀ x ∈ es, x.path.length ≤ 1000000 ∧ x.data.length ≤ 1000000 := by
        intro y hy
        rw [hes] at hy
        obtain ⟨x, hx1, rfl⟩ := List.mem_map.1 hy
        have h1 := Hx.out x hx1
        have h2 := entL_len x
        omega
      rw [← hes] at hW'
      replace hW : Ent (pt b4 (.cells #[.slice ao es.length c] 22) :: rowEn ao c es :: pt D (.deferred (some [])) :: pt b1 (.cells #[.string ⟨s.toArray⟩] 9) :: pt b2 (.cells #[.bool false, .string ⟨#[]⟩, .slice none 0 0] 28) :: pt b5 (.cells #[.bool true] 4) :: l) W := hW'
      clear hW' hall hes
      have hE : Ent (pt D (.deferred (some [])) :: anyN b2 :: pt b4 (.cells #[.slice ao es.length c] 22) :: rowEn ao c es :: pt b1 (.cells #[.string ⟨s.toArray⟩] 9) :: pt b5 (.cells #[.bool true] 4) :: l) W := ((anyN_of (hW.front 4 rfl)).front 3 rfl)
      clear hW
      obtain ⟨er, t, hbt⟩ : ∃ er t, buildT es = (er, t) := ⟨_, _, rfl⟩
      have HBu := SL.hid (fun (w : World) (h : Ent (pt D (.deferred (some [])) :: anyN b2 :: pt b4 (.cells #[.slice ao es.length c] 22) :: rowEn ao c es :: pt b1 (.cells #[.string ⟨s.toArray⟩] 9) :: pt b5 (.cells #[.bool true] 4) :: l) w) =>
        show Calls Tryd.prog 10 #[.slice ao es.length c] w (Ret fun v w' => ∃ m a c1, v = .tuple #[.agg #[.bool t.dir, .string ⟨t.data.toArray⟩, .slice a t.kids.length c1], .int .i64 er] ∧ Ent (pt D (.deferred (some [])) :: anyN b2 :: pt b4 (.cells #[.slice ao es.length c] 22) :: rowEn ao c es :: pt b1 (.cells #[.string ⟨s.toArray⟩] 9) :: pt b5 (.cells #[.bool true] 4) :: (m ++ l)) w' ∧ KidsAt (pt D (.deferred (some [])) :: anyN b2 :: pt b4 (.cells #[.slice ao es.length c] 22) :: rowEn ao c es :: pt b1 (.cells #[.string ⟨s.toArray⟩] 9) :: pt b5 (.cells #[.bool true] 4) :: (m ++ l)) (.slice a t.kids.length c1) t.kids) from by
          refine (Build_all hbe (fun w h => reads_row h 3 rfl) h).mono ?_
          rintro e w' ⟨v, rfl, m, kv, h, hE, hK⟩
          rw [hbt] at h hK
          obtain ⟨a, c', rfl⟩ := hK.slice
          exact ⟨_, rfl, m, a, c', h, Ent.swap (a := m) (b := [pt D (.deferred (some [])), anyN b2, pt b4 (.cells #[.slice ao es.length c] 22), rowEn ao c es, pt b1 (.cells #[.string ⟨s.toArray⟩] 9), pt b5 (.cells #[.bool true] 4)]) hE, hK.mono (fun p hp W hW => hp W (Ent.swap (a := [pt D (.deferred (some [])), anyN b2, pt b4 (.cells #[.slice ao es.length c] 22), rowEn ao c es, pt b1 (.cells #[.string ⟨s.toArray⟩] 9), pt b5 (.cells #[.bool true] 4)]) (b := m) hW))⟩)
      have Tok := SL.hid True.intro
      cases he : (er == 0) with
      | false =>
        have hne2 : (er != 0) = true := by rw [bne, he]; rfl
        have R := SL.hid (show takeP s = (er, .zero) by
          rw [takeP, Hes.out]
          simp only
          rw [hbt, if_pos (by simpa using he)])
        clear he hbt hbe
        go_wp2_with (first
          | go_skip
          | ((with_reducible (show Go.wpList _ _ _ (Go.Oper.mk _ (.load 4 _) _ _ _ _ :: _) _ _)); refine wpl_load1 hE 5 rfl rfl rfl rfl (by simp [go_sem]) rfl ?_)
          | ((with_reducible (show Go.wpList _ _ _ (Go.Oper.mk _ (.load 22 _) _ _ _ _ :: _) _ _)); refine wpl_load1 hE 2 rfl rfl rfl rfl (by simp [go_sem]) rfl ?_)
          | (go_at_call 10; refine (HBu.out _ hE).mono ?_; clear hE; rintro e w3 ⟨v, rfl, m, a, c1, rfl, hE, hK⟩)
          | ((with_reducible (show Go.wpList _ _ _ (Go.Oper.mk _ (.alloc 28) _ _ _ _ :: _) _ _)); refine wpl_alloc hE rfl rfl (by simp [go_sem]; rfl) ?_; clear hE; intro b9 w hE; simp only [Act.eval, Act.put, List.setIfInBounds_toArray, List.set_cons_zero, List.set_cons_succ, getD_lit, List.getD_cons_succ, List.getD_cons_zero, Value.cells] at hE)
          | ((with_reducible (show Go.wpList _ _ _ (Go.Oper.mk _ (.store 28 (.tmp 9) _) _ _ _ _ :: _) _ _)); refine wpl_storeW hE 0 rfl rfl rfl (xs := [.bool t.dir, .string ⟨t.data.toArray⟩, .slice a t.kids.length c1]) rfl rfl Tryd.sizeOf28 rfl (by simp [Value.oneCell']) rfl ?_; clear hE; intro w hE; simp only [List.set_cons_zero] at hE)
          | ((with_reducible (show Go.wpList _ _ _ (Go.Oper.mk _ (.store 28 (.tmp 2) _) _ _ _ _ :: _) _ _)); obtain ⟨⟨z0, z1, z2⟩, hE2⟩ := (hE.front 2 rfl).unpack; clear hE; refine wpl_storeW hE2 0 rfl rfl rfl (xs := [.bool false, .string ⟨#[]⟩, .slice none 0 0]) rfl rfl Tryd.sizeOf28 rfl (by simp [Value.oneCell']) rfl ?_; clear hE2; intro w hE; simp only [List.set_cons_zero, List.cons_append, List.nil_append] at hE))
        refine post_mark rfl (hE.front 2 rfl) (fun w' hw' => ⟨_, results_cell2 (v := .int .i64 er) rfl hw' 0 rfl rfl Tryd.isAgg28 Tryd.sizeOf28 rfl rfl, _, rfl, TkPost.bad R.out hw'.tail.tail.tail.tail.tail.tail.drop⟩)
      | true =>
        have he0 : er = 0 := by simpa using he
        subst he0
        have hG := ((build_same es).2 (by rw [hbt])).1
        rw [((build_same es).2 (by rw [hbt])).2, hbt] at hG
        have h64 : es.length ≤ 64 := by
          rcases Nat.lt_or_ge 64 es.length with h | h
          · rw [buildT, if_pos h] at hbt; cases hbt
          · exact h
        have hw := hG.2.1
        have hal := all_perm hG
        have HPu := SL.hid (fun (b9 : Nat) (m : List HProp) (a : Option Addr) (c1 : Nat) (w : World) (hK : KidsAt (pt D (.deferred (some [])) :: anyN b2 :: pt b4 (.cells #[.slice ao es.length c] 22) :: rowEn ao c es :: pt b1 (.cells #[.string ⟨s.toArray⟩] 9) :: pt b5 (.cells #[.bool true] 4) :: (m ++ l)) (.slice a t.kids.length c1) t.kids) (h : Ent (pt b9 (.cells #[.bool t.dir, .string ⟨t.data.toArray⟩, .slice a t.kids.length c1] 28) :: pt D (.deferred (some [])) :: anyN b2 :: pt b4 (.cells #[.slice ao es.length c] 22) :: rowEn ao c es :: pt b1 (.cells #[.string ⟨s.toArray⟩] 9) :: pt b5 (.cells #[.bool true] 4) :: (m ++ l)) w) =>
          show Calls Tryd.prog 27 #[.agg #[.bool t.dir, .string ⟨t.data.toArray⟩, .slice a t.kids.length c1]] w (Ret fun v w' => v = .string ⟨(linesP (entT 6 [] t)).toArray⟩ ∧ ∃ m5, Ent (pt b9 (.cells #[.bool t.dir, .string ⟨t.data.toArray⟩, .slice a t.kids.length c1] 28) :: pt D (.deferred (some [])) :: anyN b2 :: pt b4 (.cells #[.slice ao es.length c] 22) :: rowEn ao c es :: pt b1 (.cells #[.string ⟨s.toArray⟩] 9) :: pt b5 (.cells #[.bool true] 4) :: (m5 ++ (m ++ l))) w') from by
            refine (Put_any (t := t) hw (by decide) (hK.suf (List.suffix_cons _ _)) (by rw [hal.length_eq]; omega) (fun x hx => hbe x (hal.mem_iff.1 hx)) h).mono ?_
            rintro e w' ⟨v, rfl, rfl, m5, hE⟩
            exact ⟨_, rfl, rfl, m5, Ent.swap (a := m5) (b := pt b9 (.cells #[.bool t.dir, .string ⟨t.data.toArray⟩, .slice a t.kids.length c1] 28) :: [pt D (.deferred (some [])), anyN b2, pt b4 (.cells #[.slice ao es.length c] 22), rowEn ao c es, pt b1 (.cells #[.string ⟨s.toArray⟩] 9), pt b5 (.cells #[.bool true] 4)]) hE⟩)
        have Htk := SL.hid (show takeP s = if linesP (entT 6 [] t) = s then (0, t) else (3, .zero) by
          rw [takeP, Hes.out]
          simp only
          rw [hbt, if_neg (by simp)])
        clear he hbt hbe hG h64 hw hal
        generalize linesP (entT 6 [] t) = LP at *
        go_wp2_with (first
          | go_skip
          | ((with_reducible (show Go.wpList _ _ _ (Go.Oper.mk _ (.load 4 _) _ _ _ _ :: _) _ _)); refine wpl_load1 hE 5 rfl rfl rfl rfl (by simp [go_sem]) rfl ?_)
          | ((with_reducible (show Go.wpList _ _ _ (Go.Oper.mk _ (.load 22 _) _ _ _ _ :: _) _ _)); refine wpl_load1 hE 2 rfl rfl rfl rfl (by simp [go_sem]) rfl ?_)
          | (go_at_call 10; refine (HBu.out _ hE).mono ?_; clear hE; rintro e w3 ⟨v, rfl, m, a, c1, rfl, hE, hK⟩)
          | ((with_reducible (show Go.wpList _ _ _ (Go.Oper.mk _ (.alloc 28) _ _ _ _ :: _) _ _)); refine wpl_alloc hE rfl rfl (by simp [go_sem]; rfl) ?_; clear hE; intro b9 w hE; simp only [Act.eval, Act.put, List.setIfInBounds_toArray, List.set_cons_zero, List.set_cons_succ, getD_lit, List.getD_cons_succ, List.getD_cons_zero, Value.cells] at hE)
          | ((with_reducible (show Go.wpList _ _ _ (Go.Oper.mk _ (.store 28 (.tmp 9) _) _ _ _ _ :: _) _ _)); refine wpl_storeW hE 0 rfl rfl rfl (xs := [.bool t.dir, .string ⟨t.data.toArray⟩, .slice a t.kids.length c1]) rfl rfl Tryd.sizeOf28 rfl (by simp [Value.oneCell']) rfl ?_; clear hE; intro w hE; simp only [List.set_cons_zero] at hE))
        have HP := SL.hid (fun (w : World) (h : Ent (pt b9 (.cells #[.bool t.dir, .string ⟨t.data.toArray⟩, .slice a t.kids.length c1] 28) :: pt D (.deferred (some [])) :: anyN b2 :: pt b4 (.cells #[.slice ao es.length c] 22) :: rowEn ao c es :: pt b1 (.cells #[.string ⟨s.toArray⟩] 9) :: pt b5 (.cells #[.bool true] 4) :: (m ++ l)) w) => HPu.out b9 m a c1 w hK h)
        clear HBu HPu
        cases heq : (LP == s) with
        | true =>
          have R := SL.hid (show takeP s = (0, t) by rw [Htk.out, if_pos (by simpa using heq)])
          refine wp_onlyN ?_
          refine wp_region_held_drew (S := (fun w' => ((Instr.loadAt 28 (.pointer (some ⟨b9, 0, none⟩))).run Tryd.prog w' = .ok (.agg [.bool t.dir, .string ⟨t.data.toArray⟩, .slice a t.kids.length c1].toArray) w') ∧ ((Instr.loadAt 9 (.pointer (some ⟨b1, 0, none⟩))).run Tryd.prog w' = .ok (.string ⟨s.toArray⟩) w'))) (by kernel_rfl) ⟨(atWm hE.drew (by repeat (first | exact List.Mem.head _ | refine List.Mem.tail _ ?_)) Tryd.isAgg28 Tryd.sizeOf28 rfl), (atVm hE.drew (by repeat (first | exact List.Mem.head _ | refine List.Mem.tail _ ?_)) (by simp [go_sem]) rfl)⟩ (fun hS => ?_)
          refine takeW 0 ⟨some 46, .load 28 (.tmp 9), 28, "manifest.go:112", #[], none⟩ ?_ (.inl ⟨by rfl, ?_⟩) hS ?_
          rotate_left
          · (intro w hSw; (try dsimp only at hSw); go_simp; (try with_reducible rfl))
          try simp only [Act.put, sb, s0, sz]
          refine takeW 2 ⟨some 48, .load 9 (.tmp 1), 9, "manifest.go:112", #[], none⟩ ?_ (.inl ⟨by rfl, ?_⟩) hS ?_
          rotate_left
          · (intro w hSw; (try dsimp only at hSw); go_simp; (try with_reducible rfl))
          try simp only [Act.put, sb, s0, sz]
          refine wpAnyH_ready (rs := [1]) (by kernel_rfl) (by simp) ?_
          refine (AllReadyH.cons (o := { dst := some 47, op := Go.Op.call { callee := Go.Callee.value (Go.Operand.func 27), args := #[Go.Operand.tmp 46], argTypes := #[28] }, type := 9, pos := "manifest.go:112", after := #[{ on := 0, ground := Go.Ground.data }], guard := none }) rfl (fun K hK => ?_) AllReadyH.nil)
          (go_simp; refine (HP.out _ hE.drew).mono ?_; rintro e w5 ⟨v, rfl, rfl, m5, hP⟩)
          refine hK.out _ _ ⟨(atWm hP (by repeat (first | exact List.Mem.head _ | refine List.Mem.tail _ ?_)) Tryd.isAgg28 Tryd.sizeOf28 rfl), (atVm hP (by repeat (first | exact List.Mem.head _ | refine List.Mem.tail _ ?_)) (by simp [go_sem]) rfl)⟩ (fun hS => ?_)
          clear hK K
          try simp only [Act.put, sb, s0, sz]
          refine takeW 3 ⟨some 49, .binOp .neq 9 (.tmp 47) (.tmp 48) 9, 4, "manifest.go:112", #[⟨1, .data⟩, ⟨2, .data⟩], none⟩ ?_ (.inl ⟨by rfl, ?_⟩) hS ?_
          rotate_left
          · (intro w hSw; (try dsimp only at hSw); go_simp; (try with_reducible rfl))
          try simp only [Act.put, sb, s0, sz]
          refine wpAnyH_done (by kernel_rfl) ?_ _
          all_goals
            refine onlyN_n ?_
            clear hS
            replace hE := hP
            clear hP
            go_wp2_with (first
              | go_skip
              | ((with_reducible (show Go.wpList _ _ _ (Go.Oper.mk _ (.load 28 _) _ _ _ _ :: _) _ _)); refine wpl_loadW hE 0 rfl rfl rfl rfl Tryd.isAgg28 Tryd.sizeOf28 rfl ?_)
              | ((with_reducible (show Go.wpList _ _ _ (Go.Oper.mk _ (.store 28 (.tmp 2) _) _ _ _ _ :: _) _ _)); obtain ⟨⟨z0, z1, z2⟩, hE2⟩ := (hE.front 2 rfl).unpack; clear hE; refine wpl_storeW hE2 0 rfl rfl rfl (xs := [.bool t.dir, .string ⟨t.data.toArray⟩, .slice a t.kids.length c1]) rfl rfl Tryd.sizeOf28 rfl (by simp [Value.oneCell']) rfl ?_; clear hE2; intro w hE; simp only [List.set_cons_zero, List.cons_append, List.nil_append] at hE))
            refine post_mark2 rfl (hE.front 2 rfl) (fun w' hw' => ⟨_, results_cell2 (v := .int .i64 0) rfl hw' 1 rfl rfl Tryd.isAgg28 Tryd.sizeOf28 rfl rfl, _, rfl, ?_⟩)
            refine ⟨anyD D :: anyN b2 :: pt b9 (.cells #[.bool t.dir, .string ⟨t.data.toArray⟩, .slice a t.kids.length c1] 28) :: pt b4 (.cells #[.slice ao es.length c] 22) :: rowEn ao c es :: pt b1 (.cells #[.string ⟨s.toArray⟩] 9) :: pt b5 (.cells #[.bool true] 4) :: (m5 ++ m), .slice a t.kids.length c1, by rw [R.out]; rfl, ?_, ?_⟩
            · have h1 := (anyD_none hw').front 1 rfl
              have h2 := (anyN_of h1).front 1 rfl
              simp only [List.append_assoc, List.cons_append]
              exact h2
            · rw [R.out]
              refine KidsAt.mono (fun p hp W hW => hp W ?_) (KidsAt.monoR (fun v n xs h => knows_anyD h) hK)
              simp only [List.append_assoc, List.cons_append] at hW
              exact (Ent.swap (a := [anyD D, anyN b2, pt b4 (.cells #[.slice ao es.length c] 22), rowEn ao c es, pt b1 (.cells #[.string ⟨s.toArray⟩] 9), pt b5 (.cells #[.bool true] 4)]) (b := m5) ((hW.front 2 rfl).tail)).drop
        | false =>
          have R := SL.hid (show takeP s = (3, .zero) by rw [Htk.out, if_neg (by simpa using heq)])
          refine wp_onlyN ?_
          refine wp_region_held_drew (S := (fun w' => ((Instr.loadAt 28 (.pointer (some ⟨b9, 0, none⟩))).run Tryd.prog w' = .ok (.agg [.bool t.dir, .string ⟨t.data.toArray⟩, .slice a t.kids.length c1].toArray) w') ∧ ((Instr.loadAt 9 (.pointer (some ⟨b1, 0, none⟩))).run Tryd.prog w' = .ok (.string ⟨s.toArray⟩) w'))) (by kernel_rfl) ⟨(atWm hE.drew (by repeat (first | exact List.Mem.head _ | refine List.Mem.tail _ ?_)) Tryd.isAgg28 Tryd.sizeOf28 rfl), (atVm hE.drew (by repeat (first | exact List.Mem.head _ | refine List.Mem.tail _ ?_)) (by simp [go_sem]) rfl)⟩ (fun hS => ?_)
          refine takeW 0 ⟨some 46, .load 28 (.tmp 9), 28, "manifest.go:112", #[], none⟩ ?_ (.inl ⟨by rfl, ?_⟩) hS ?_
          rotate_left
          · (intro w hSw; (try dsimp only at hSw); go_simp; (try with_reducible rfl))
          try simp only [Act.put, sb, s0, sz]
          refine takeW 2 ⟨some 48, .load 9 (.tmp 1), 9, "manifest.go:112", #[], none⟩ ?_ (.inl ⟨by rfl, ?_⟩) hS ?_
          rotate_left
          · (intro w hSw; (try dsimp only at hSw); go_simp; (try with_reducible rfl))
          try simp only [Act.put, sb, s0, sz]
          refine wpAnyH_ready (rs := [1]) (by kernel_rfl) (by simp) ?_
          refine (AllReadyH.cons (o := { dst := some 47, op := Go.Op.call { callee := Go.Callee.value (Go.Operand.func 27), args := #[Go.Operand.tmp 46], argTypes := #[28] }, type := 9, pos := "manifest.go:112", after := #[{ on := 0, ground := Go.Ground.data }], guard := none }) rfl (fun K hK => ?_) AllReadyH.nil)
          (go_simp; refine (HP.out _ hE.drew).mono ?_; rintro e w5 ⟨v, rfl, rfl, m5, hP⟩)
          refine hK.out _ _ ⟨(atWm hP (by repeat (first | exact List.Mem.head _ | refine List.Mem.tail _ ?_)) Tryd.isAgg28 Tryd.sizeOf28 rfl), (atVm hP (by repeat (first | exact List.Mem.head _ | refine List.Mem.tail _ ?_)) (by simp [go_sem]) rfl)⟩ (fun hS => ?_)
          clear hK K
          try simp only [Act.put, sb, s0, sz]
          refine takeW 3 ⟨some 49, .binOp .neq 9 (.tmp 47) (.tmp 48) 9, 4, "manifest.go:112", #[⟨1, .data⟩, ⟨2, .data⟩], none⟩ ?_ (.inl ⟨by rfl, ?_⟩) hS ?_
          rotate_left
          · (intro w hSw; (try dsimp only at hSw); go_simp; (try with_reducible rfl))
          try simp only [Act.put, sb, s0, sz]
          refine wpAnyH_done (by kernel_rfl) ?_ _
          all_goals
            refine onlyN_n ?_
            clear hS
            replace hE := hP
            clear hP
            go_wp2_with (first
              | go_skip
              | ((with_reducible (show Go.wpList _ _ _ (Go.Oper.mk _ (.store 28 (.tmp 2) _) _ _ _ _ :: _) _ _)); obtain ⟨⟨z0, z1, z2⟩, hE2⟩ := (hE.front 2 rfl).unpack; clear hE; refine wpl_storeW hE2 0 rfl rfl rfl (xs := [.bool false, .string ⟨#[]⟩, .slice none 0 0]) rfl rfl Tryd.sizeOf28 rfl (by simp [Value.oneCell']) rfl ?_; clear hE2; intro w hE; simp only [List.set_cons_zero, List.cons_append, List.nil_append] at hE))
            refine post_mark rfl (hE.front 2 rfl) (fun w' hw' => ⟨_, results_cell2 (v := .int .i64 3) rfl hw' 0 rfl rfl Tryd.isAgg28 Tryd.sizeOf28 rfl rfl, _, rfl, TkPost.bad R.out hw'.tail.tail.tail.tail.tail.tail.drop.drop⟩)
  case stop =>
    intro D c pre W hpre hW
    obtain ⟨⟨rfl, hbad⟩, hW'⟩ := (hW.front 4 rfl).unpack
    have R := SL.hid (takeP_none (show parse s = none by
      rw [Hps.out, if_neg]
      rintro ⟨_, h⟩
      obtain ⟨t, ht⟩ := hpre
      rw [← ht, List.all_append, hbad] at h
      cases h))
    replace hW : Ent (pt D (.deferred (some [])) :: pt b1 (.cells #[.string ⟨s.toArray⟩] 9) :: pt b2 (.cells #[.bool false, .string ⟨#[]⟩, .slice none 0 0] 28) :: pt b5 (.cells #[.bool false] 4) :: l) W := hW'
    clear hW' hbad hpre
    refine wpIn_wide.2 ?_
    go_wp2_with (first
      | go_skip
      | ((with_reducible (show Go.wpList _ _ _ (Go.Oper.mk _ (.load _ _) _ _ _ _ :: _) _ _)); refine wpl_load1 hW 3 rfl rfl rfl rfl (by simp [go_sem]) rfl ?_)
      | ((with_reducible (show Go.wpList _ _ _ (Go.Oper.mk _ (.store 28 _ _) _ _ _ _ :: _) _ _)); refine wpl_storeW hW 2 rfl rfl rfl (xs := [.bool false, .string ⟨#[]⟩, .slice none 0 0]) rfl rfl Tryd.sizeOf28 rfl (by simp [Value.oneCell']) rfl ?_; clear hW; intro w hW; simp only [List.set_cons_zero, List.set_cons_succ] at hW))
    refine post_mark rfl hW (fun w' hw' => ⟨_, results_cell2 (v := .int .i64 3) rfl hw' 1 rfl rfl Tryd.isAgg28 Tryd.sizeOf28 rfl rfl, _, rfl, TkPost.bad R.out hw'.tail.tail.tail⟩)
end Go.Proofs.YtjmllpgmbaoebaaDoor
namespace Go.Proofs.YtjmllpgmbaoebaaDoor
open Go.RowKit Go.SL

attribute [local go_sem] Oper.semAt_some wide_fn wide_depth
def tkI0 (s : List UInt8) (b1 b2 b4 b5 : Nat) (l : List HProp) (pre : List (List UInt8)) : List HProp :=
  pt b1 (.cells #[.string ⟨s.toArray⟩] 9) :: pt b2 (.cells #[.bool false, .string ⟨#[]⟩, .slice none 0 0] 28) :: pt b5 (.cells #[.bool true] 4) :: pt b4 (.cells #[.slice none 0 0] 22) :: (ex fun _ : pre = [] => []) :: l
def tkX0 (s : List UInt8) (b1 b2 b4 b5 : Nat) (l : List HProp) (c : Code) (_ : List (List UInt8)) : List HProp :=
  pt b1 (.cells #[.string ⟨s.toArray⟩] 9) :: pt b2 (.cells #[.bool false, .string ⟨#[]⟩, .slice none 0 0] 28) :: pt b5 (.cells #[.bool true] 4) :: pt b4 (.cells #[.slice none 0 0] 22) :: (ex fun _ : c = .exit 0 => []) :: l
set_option maxRecDepth 100000 in
set_option maxHeartbeats 8000000 in
attribute [-go_sem] Instr.loadAt in
theorem Take_none {s : List UInt8} (hs : s.length ≤ 10000000) (h0 : s = []) {l : List HProp} {w : World} (hE : Ent l w) :
    Calls Tryd.prog 26 #[.string ⟨s.toArray⟩] w (Ret (TkPost s l)) := by
  have hne : (s == []) = true := by simpa using h0
  have HT := SL.hid (trim_any s [10] (by omega))
  have htl : (trimP s).length ≤ 10000000 := by
    unfold trimP Lib.trimSuffix
    split
    · rw [List.length_take]; omega
    · omega
  change Hid (∀ w, Calls _ _ _ w fun e w' => e = .returned (.string ⟨(trimP s).toArray⟩) ∧ w' = w) at HT
  have Hps := SL.hid (show parse s = some [] by rw [parse, if_pos h0])
  have Hcu := SL.hid (show cutsN (trimP s) = [[]] by rw [h0]; decide)
  clear h0
  generalize trimP s = p at *
  refine calls_of_marks Tryd.func26 rfl ?_
  simp only [Tryd.ntmps26, List.size_toArray, List.length_cons, List.length_nil, Nat.reduceAdd, Nat.reduceSub, Array.replicate_succ, Array.replicate_zero, List.push_toArray, List.append_toArray, List.nil_append, List.cons_append]
  go_wp2_with (first
    | go_skip
    | ((with_reducible (show Go.wpList _ _ _ (Go.Oper.mk _ (.box _ _) _ _ _ _ :: _) _ _)); refine wpl_box hE rfl rfl rfl ?_; clear hE; intro b1 w hE1)
    | ((with_reducible (show Go.wpList _ _ _ (Go.Oper.mk _ (.alloc 28) _ _ _ _ :: _) _ _)); refine wpl_alloc hE1 rfl rfl (by simp [go_sem]; rfl) ?_; clear hE1; intro b2 w hE; simp only [Act.eval, Act.put, List.setIfInBounds_toArray, List.set_cons_zero, List.set_cons_succ, getD_lit, List.getD_cons_succ, List.getD_cons_zero, Value.cells] at hE))
  go_step3
  go_wp2_with (first
    | go_skip
    | ((with_reducible (show Go.wpList _ _ _ (Go.Oper.mk _ (.alloc 22) _ _ _ _ :: _) _ _)); refine wpl_alloc hE rfl rfl (by simp [go_sem]; rfl) ?_; clear hE; intro b4 w hE; simp only [Act.eval, Act.put, List.setIfInBounds_toArray, List.set_cons_zero, List.set_cons_succ, getD_lit, List.getD_cons_succ, List.getD_cons_zero, Value.cells] at hE)
    | ((with_reducible (show Go.wpList _ _ _ (Go.Oper.mk _ (.alloc 4) _ _ _ _ :: _) _ _)); refine wpl_alloc hE rfl rfl (by simp [go_sem]; rfl) ?_; clear hE; intro b5 w hE; simp only [Act.eval, Act.put, List.setIfInBounds_toArray, List.set_cons_zero, List.set_cons_succ, getD_lit, List.getD_cons_succ, List.getD_cons_zero, Value.cells] at hE)
    | ((with_reducible (show Go.wpList _ _ _ (Go.Oper.mk _ (.load _ _) _ _ _ _ :: _) _ _)); refine wpl_load1 hE 2 rfl rfl rfl rfl (by simp [go_sem]) rfl ?_)
    | ((with_reducible (show Go.wpList _ _ _ (Go.Oper.mk _ (.store _ _ _) _ _ _ _ :: _) _ _)); (first | (refine wpl_st1 hE 0 rfl rfl rfl rfl rfl (by first | (simp [go_sem]; done) | (simp [go_sem]; rfl)) rfl rfl (by simp) ?_) | (refine wpl_st1 hE 1 rfl rfl rfl rfl rfl (by first | (simp [go_sem]; done) | (simp [go_sem]; rfl)) rfl rfl (by simp) ?_) | (refine wpl_st1 hE 2 rfl rfl rfl rfl rfl (by first | (simp [go_sem]; done) | (simp [go_sem]; rfl)) rfl rfl (by simp) ?_) | (refine wpl_st1 hE 3 rfl rfl rfl rfl rfl (by first | (simp [go_sem]; done) | (simp [go_sem]; rfl)) rfl rfl (by simp) ?_) | (refine wpl_st1 hE 4 rfl rfl rfl rfl rfl (by first | (simp [go_sem]; done) | (simp [go_sem]; rfl)) rfl rfl (by simp) ?_) | (refine wpl_st1 hE 5 rfl rfl rfl rfl rfl (by first | (simp [go_sem]; done) | (simp [go_sem]; rfl)) rfl rfl (by simp) ?_) | (refine wpl_st1 hE 6 rfl rfl rfl rfl rfl (by first | (simp [go_sem]; done) | (simp [go_sem]; rfl)) rfl rfl (by simp) ?_) | (refine wpl_st1 hE 7 rfl rfl rfl rfl rfl (by first | (simp [go_sem]; done) | (simp [go_sem]; rfl)) rfl rfl (by simp) ?_)); clear hE; intro w hE; simp only [Act.eval, getD_lit, List.getD_cons_succ, List.getD_cons_zero, List.set_cons_zero, List.set_cons_succ] at hE)
    | go_skip)
  go_step3
  go_wp2_with (first
    | go_skip
    | ((with_reducible (show Go.wpList _ _ _ (Go.Oper.mk _ (.load _ _) _ _ _ _ :: _) _ _)); refine wpl_load1 hE 3 rfl rfl rfl rfl (by simp [go_sem]) rfl ?_)
    | (go_at_call 44; refine (HT.out _).mono ?_; clear HT; rintro e w2 ⟨rfl, rfl⟩)
    | (go_at_call 43; refine (SplitSeqN_any p hE).mono ?_; clear hE; rintro e w2 ⟨v, rfl, bs, bsep, bsave, rfl, hE4⟩))
  refine wpIn_wide.1 (wpIn_rangeSL (gf := 71) rfl (enters_of Tryd.func71 (by kernel_rfl) rfl) (splitN_iter p (by omega) bs bsep bsave) (fun _ => rfl) (tkI0 s b1 b2 b4 b5 l) (tkX0 s b1 b2 b4 b5 l) ?e0
    (fun x => { tmps := #[.string ⟨s.toArray⟩, .pointer (some ⟨b1, 0, none⟩), .pointer (some ⟨b2, 0, none⟩), .int .i64 0, .pointer (some ⟨b4, 0, none⟩), .pointer (some ⟨b5, 0, none⟩), .string ⟨x.toArray⟩, undef, undef, undef, undef, .string ⟨s.toArray⟩, .bool true, .bool true, undef, undef, .bool true, .string ⟨s.toArray⟩, .string ⟨p.toArray⟩, .func (.func 71) #[] #[.pointer (some ⟨bsep, 0, none⟩), .pointer (some ⟨bs, 0, none⟩), .pointer (some ⟨bsave, 0, none⟩)], .string ⟨x.toArray⟩, undef, undef, undef, undef, undef, undef, undef, undef, undef, undef, undef, undef, undef, undef, undef, undef, undef, undef, undef, undef, undef, undef, undef, undef, undef, undef, undef, undef, undef, undef, undef], defers := [] }) ?assign ?body ?done ?stop)
  case e0 =>
    have h2 := Ent.pack (f := fun _ : ([] : List (List UInt8)) = [] => []) rfl hE4
    exact ((((((h2.front 5 rfl).front 5 rfl).front 6 rfl).front 7 rfl).front 7 rfl).front 7 rfl).front 7 rfl
  case assign =>
    intro lp x W K hK
    gi_wp2
    exact hK
  case body =>
    intro lp pre x W L hpre hW
    obtain ⟨hpn, hW'⟩ := (hW.front 4 rfl).unpack
    subst hpn
    replace hW : Ent (pt b1 (.cells #[.string ⟨s.toArray⟩] 9) :: pt b2 (.cells #[.bool false, .string ⟨#[]⟩, .slice none 0 0] 28) :: pt b5 (.cells #[.bool true] 4) :: pt b4 (.cells #[.slice none 0 0] 22) :: (l ++ L)) W := hW'
    clear hW'
    gi_wp2_with (first
      | (refine wplIn_one rfl rfl rfl (by intro c h; cases h) (by rintro ⟨_, _, h⟩; exact h) ?_; (with_reducible (show Go.wpList _ _ _ (Go.Oper.mk _ (.load _ _) _ _ _ _ :: _) _ _)); refine wpl_load1 hW 0 rfl rfl rfl rfl (by simp [go_sem]) rfl ?_; refine wplIn_nil ?_))
    have hG := Ent.pack (f := fun _ : Code.exit 0 = .exit 0 => []) rfl hW
    exact (((hG.front 4 rfl).front 4 rfl).front 4 rfl).front 4 rfl
  case done =>
    intro D W hW
    obtain ⟨hpn, _⟩ := (hW.front 5 rfl).unpack
    rw [Hcu.out] at hpn
    cases hpn
  case stop =>
    intro D c pre W hpre hW
    obtain ⟨hc0, hW'⟩ := (hW.front 5 rfl).unpack
    subst hc0
    clear hpre hW
    obtain ⟨ao, c, es, hes, hW⟩ : ∃ ao c es, es = ([] : List En) ∧ Ent (pt b4 (.cells #[.slice ao es.length c] 22) :: rowEn ao c es :: pt D (.deferred (some [])) :: pt b1 (.cells #[.string ⟨s.toArray⟩] 9) :: pt b2 (.cells #[.bool false, .string ⟨#[]⟩, .slice none 0 0] 28) :: pt b5 (.cells #[.bool true] 4) :: l) W := ⟨none, 0, [], rfl, ((hW'.front 4 rfl).nil 41 3).front 1 rfl⟩
    clear hW'
    have Hes := SL.hid (show parse s = some es by rw [Hps.out, hes])
    have hbe : ∀ x ∈ es, x.path.length ≤ 1000000 ∧ x.data.length ≤ 1000000 := by rw [hes]; intro x hx; cases hx
    clear hes
    refine wpIn_wide.2 ?_
    have hE : Ent (pt D (.deferred (some [])) :: anyN b2 :: pt b4 (.cells #[.slice ao es.length c] 22) :: rowEn ao c es :: pt b1 (.cells #[.string ⟨s.toArray⟩] 9) :: pt b5 (.cells #[.bool true] 4) :: l) W := ((anyN_of (hW.front 4 rfl)).front 3 rfl)
    clear hW
    obtain ⟨er, t, hbt⟩ : ∃ er t, buildT es = (er, t) := ⟨_, _, rfl⟩
    have HBu := SL.hid (fun (w : World) (h : Ent (pt D (.deferred (some [])) :: anyN b2 :: pt b4 (.cells #[.slice ao es.length c] 22) :: rowEn ao c es :: pt b1 (.cells #[.string ⟨s.toArray⟩] 9) :: pt b5 (.cells #[.bool true] 4) :: l) w) =>
      show Calls Tryd.prog 10 #[.slice ao es.length c] w (Ret fun v w' => ∃ m a c1, v = .tuple #[.agg #[.bool t.dir, .string ⟨t.data.toArray⟩, .slice a t.kids.length c1], .int .i64 er] ∧ Ent (pt D (.deferred (some [])) :: anyN b2 :: pt b4 (.cells #[.slice ao es.length c] 22) :: rowEn ao c es :: pt b1 (.cells #[.string ⟨s.toArray⟩] 9) :: pt b5 (.cells #[.bool true] 4) :: (m ++ l)) w' ∧ KidsAt (pt D (.deferred (some [])) :: anyN b2 :: pt b4 (.cells #[.slice ao es.length c] 22) :: rowEn ao c es :: pt b1 (.cells #[.string ⟨s.toArray⟩] 9) :: pt b5 (.cells #[.bool true] 4) :: (m ++ l)) (.slice a t.kids.length c1) t.kids) from by
        refine (Build_all hbe (fun w h => reads_row h 3 rfl) h).mono ?_
        rintro e w' ⟨v, rfl, m, kv, h, hE, hK⟩
        rw [hbt] at h hK
        obtain ⟨a, c', rfl⟩ := hK.slice
        exact ⟨_, rfl, m, a, c', h, Ent.swap (a := m) (b := [pt D (.deferred (some [])), anyN b2, pt b4 (.cells #[.slice ao es.length c] 22), rowEn ao c es, pt b1 (.cells #[.string ⟨s.toArray⟩] 9), pt b5 (.cells #[.bool true] 4)]) hE, hK.mono (fun p hp W hW => hp W (Ent.swap (a := [pt D (.deferred (some [])), anyN b2, pt b4 (.cells #[.slice ao es.length c] 22), rowEn ao c es, pt b1 (.cells #[.string ⟨s.toArray⟩] 9), pt b5 (.cells #[.bool true] 4)]) (b := m) hW))⟩)
    have Tok := SL.hid True.intro
    cases he : (er == 0) with
    | false =>
      have hne2 : (er != 0) = true := by rw [bne, he]; rfl
      have R := SL.hid (show takeP s = (er, .zero) by
        rw [takeP, Hes.out]
        simp only
        rw [hbt, if_pos (by simpa using he)])
      clear he hbt hbe
      go_wp2_with (first
        | go_skip
        | ((with_reducible (show Go.wpList _ _ _ (Go.Oper.mk _ (.load 4 _) _ _ _ _ :: _) _ _)); refine wpl_load1 hE 5 rfl rfl rfl rfl (by simp [go_sem]) rfl ?_)
        | ((with_reducible (show Go.wpList _ _ _ (Go.Oper.mk _ (.load 22 _) _ _ _ _ :: _) _ _)); refine wpl_load1 hE 2 rfl rfl rfl rfl (by simp [go_sem]) rfl ?_)
        | (go_at_call 10; refine (HBu.out _ hE).mono ?_; clear hE; rintro e w3 ⟨v, rfl, m, a, c1, rfl, hE, hK⟩)
        | ((with_reducible (show Go.wpList _ _ _ (Go.Oper.mk _ (.alloc 28) _ _ _ _ :: _) _ _)); refine wpl_alloc hE rfl rfl (by simp [go_sem]; rfl) ?_; clear hE; intro b9 w hE; simp only [Act.eval, Act.put, List.setIfInBounds_toArray, List.set_cons_zero, List.set_cons_succ, getD_lit, List.getD_cons_succ, List.getD_cons_zero, Value.cells] at hE)
        | ((with_reducible (show Go.wpList _ _ _ (Go.Oper.mk _ (.store 28 (.tmp 9) _) _ _ _ _ :: _) _ _)); refine wpl_storeW hE 0 rfl rfl rfl (xs := [.bool t.dir, .string ⟨t.data.toArray⟩, .slice a t.kids.length c1]) rfl rfl Tryd.sizeOf28 rfl (by simp [Value.oneCell']) rfl ?_; clear hE; intro w hE; simp only [List.set_cons_zero] at hE)
        | ((with_reducible (show Go.wpList _ _ _ (Go.Oper.mk _ (.store 28 (.tmp 2) _) _ _ _ _ :: _) _ _)); obtain ⟨⟨z0, z1, z2⟩, hE2⟩ := (hE.front 2 rfl).unpack; clear hE; refine wpl_storeW hE2 0 rfl rfl rfl (xs := [.bool false, .string ⟨#[]⟩, .slice none 0 0]) rfl rfl Tryd.sizeOf28 rfl (by simp [Value.oneCell']) rfl ?_; clear hE2; intro w hE; simp only [List.set_cons_zero, List.cons_append, List.nil_append] at hE))
      refine post_mark rfl (hE.front 2 rfl) (fun w' hw' => ⟨_, results_cell2 (v := .int .i64 er) rfl hw' 0 rfl rfl Tryd.isAgg28 Tryd.sizeOf28 rfl rfl, _, rfl, TkPost.bad R.out hw'.tail.tail.tail.tail.tail.tail.drop⟩)
    | true =>
      have he0 : er = 0 := by simpa using he
      subst he0
      have hG := ((build_same es).2 (by rw [hbt])).1
      rw [((build_same es).2 (by rw [hbt])).2, hbt] at hG
      have h64 : es.length ≤ 64 := by
        rcases Nat.lt_or_ge 64 es.length with h | h
        · rw [buildT, if_pos h] at hbt; cases hbt
        · exact h
      have hw := hG.2.1
      have hal := all_perm hG
      have HPu := SL.hid (fun (b9 : Nat) (m : List HProp) (a : Option Addr) (c1 : Nat) (w : World) (hK : KidsAt (pt D (.deferred (some [])) :: anyN b2 :: pt b4 (.cells #[.slice ao es.length c] 22) :: rowEn ao c es :: pt b1 (.cells #[.string ⟨s.toArray⟩] 9) :: pt b5 (.cells #[.bool true] 4) :: (m ++ l)) (.slice a t.kids.length c1) t.kids) (h : Ent (pt b9 (.cells #[.bool t.dir, .string ⟨t.data.toArray⟩, .slice a t.kids.length c1] 28) :: pt D (.deferred (some [])) :: anyN b2 :: pt b4 (.cells #[.slice ao es.length c] 22) :: rowEn ao c es :: pt b1 (.cells #[.string ⟨s.toArray⟩] 9) :: pt b5 (.cells #[.bool true] 4) :: (m ++ l)) w) =>
        show Calls Tryd.prog 27 #[.agg #[.bool t.dir, .string ⟨t.data.toArray⟩, .slice a t.kids.length c1]] w (Ret fun v w' => v = .string ⟨(linesP (entT 6 [] t)).toArray⟩ ∧ ∃ m5, Ent (pt b9 (.cells #[.bool t.dir, .string ⟨t.data.toArray⟩, .slice a t.kids.length c1] 28) :: pt D (.deferred (some [])) :: anyN b2 :: pt b4 (.cells #[.slice ao es.length c] 22) :: rowEn ao c es :: pt b1 (.cells #[.string ⟨s.toArray⟩] 9) :: pt b5 (.cells #[.bool true] 4) :: (m5 ++ (m ++ l))) w') from by
          refine (Put_any (t := t) hw (by decide) (hK.suf (List.suffix_cons _ _)) (by rw [hal.length_eq]; omega) (fun x hx => hbe x (hal.mem_iff.1 hx)) h).mono ?_
          rintro e w' ⟨v, rfl, rfl, m5, hE⟩
          exact ⟨_, rfl, rfl, m5, Ent.swap (a := m5) (b := pt b9 (.cells #[.bool t.dir, .string ⟨t.data.toArray⟩, .slice a t.kids.length c1] 28) :: [pt D (.deferred (some [])), anyN b2, pt b4 (.cells #[.slice ao es.length c] 22), rowEn ao c es, pt b1 (.cells #[.string ⟨s.toArray⟩] 9), pt b5 (.cells #[.bool true] 4)]) hE⟩)
      have Htk := SL.hid (show takeP s = if linesP (entT 6 [] t) = s then (0, t) else (3, .zero) by
        rw [takeP, Hes.out]
        simp only
        rw [hbt, if_neg (by simp)])
      clear he hbt hbe hG h64 hw hal
      generalize linesP (entT 6 [] t) = LP at *
      go_wp2_with (first
        | go_skip
        | ((with_reducible (show Go.wpList _ _ _ (Go.Oper.mk _ (.load 4 _) _ _ _ _ :: _) _ _)); refine wpl_load1 hE 5 rfl rfl rfl rfl (by simp [go_sem]) rfl ?_)
        | ((with_reducible (show Go.wpList _ _ _ (Go.Oper.mk _ (.load 22 _) _ _ _ _ :: _) _ _)); refine wpl_load1 hE 2 rfl rfl rfl rfl (by simp [go_sem]) rfl ?_)
        | (go_at_call 10; refine (HBu.out _ hE).mono ?_; clear hE; rintro e w3 ⟨v, rfl, m, a, c1, rfl, hE, hK⟩)
        | ((with_reducible (show Go.wpList _ _ _ (Go.Oper.mk _ (.alloc 28) _ _ _ _ :: _) _ _)); refine wpl_alloc hE rfl rfl (by simp [go_sem]; rfl) ?_; clear hE; intro b9 w hE; simp only [Act.eval, Act.put, List.setIfInBounds_toArray, List.set_cons_zero, List.set_cons_succ, getD_lit, List.getD_cons_succ, List.getD_cons_zero, Value.cells] at hE)
        | ((with_reducible (show Go.wpList _ _ _ (Go.Oper.mk _ (.store 28 (.tmp 9) _) _ _ _ _ :: _) _ _)); refine wpl_storeW hE 0 rfl rfl rfl (xs := [.bool t.dir, .string ⟨t.data.toArray⟩, .slice a t.kids.length c1]) rfl rfl Tryd.sizeOf28 rfl (by simp [Value.oneCell']) rfl ?_; clear hE; intro w hE; simp only [List.set_cons_zero] at hE))
      have HP := SL.hid (fun (w : World) (h : Ent (pt b9 (.cells #[.bool t.dir, .string ⟨t.data.toArray⟩, .slice a t.kids.length c1] 28) :: pt D (.deferred (some [])) :: anyN b2 :: pt b4 (.cells #[.slice ao es.length c] 22) :: rowEn ao c es :: pt b1 (.cells #[.string ⟨s.toArray⟩] 9) :: pt b5 (.cells #[.bool true] 4) :: (m ++ l)) w) => HPu.out b9 m a c1 w hK h)
      clear HBu HPu
      cases heq : (LP == s) with
      | true =>
        have R := SL.hid (show takeP s = (0, t) by rw [Htk.out, if_pos (by simpa using heq)])
        refine wp_onlyN ?_
        refine wp_region_held_drew (S := (fun w' => ((Instr.loadAt 28 (.pointer (some ⟨b9, 0, none⟩))).run Tryd.prog w' = .ok (.agg [.bool t.dir, .string ⟨t.data.toArray⟩, .slice a t.kids.length c1].toArray) w') ∧ ((Instr.loadAt 9 (.pointer (some ⟨b1, 0, none⟩))).run Tryd.prog w' = .ok (.string ⟨s.toArray⟩) w'))) (by kernel_rfl) ⟨(atWm hE.drew (by repeat (first | exact List.Mem.head _ | refine List.Mem.tail _ ?_)) Tryd.isAgg28 Tryd.sizeOf28 rfl), (atVm hE.drew (by repeat (first | exact List.Mem.head _ | refine List.Mem.tail _ ?_)) (by simp [go_sem]) rfl)⟩ (fun hS => ?_)
        refine takeW 0 ⟨some 46, .load 28 (.tmp 9), 28, "manifest.go:112", #[], none⟩ ?_ (.inl ⟨by rfl, ?_⟩) hS ?_
        rotate_left
        · (intro w hSw; (try dsimp only at hSw); go_simp; (try with_reducible rfl))
        try simp only [Act.put, sb, s0, sz]
        refine takeW 2 ⟨some 48, .load 9 (.tmp 1), 9, "manifest.go:112", #[], none⟩ ?_ (.inl ⟨by rfl, ?_⟩) hS ?_
        rotate_left
        · (intro w hSw; (try dsimp only at hSw); go_simp; (try with_reducible rfl))
        try simp only [Act.put, sb, s0, sz]
        refine wpAnyH_ready (rs := [1]) (by kernel_rfl) (by simp) ?_
        refine (AllReadyH.cons (o := { dst := some 47, op := Go.Op.call { callee := Go.Callee.value (Go.Operand.func 27), args := #[Go.Operand.tmp 46], argTypes := #[28] }, type := 9, pos := "manifest.go:112", after := #[{ on := 0, ground := Go.Ground.data }], guard := none }) rfl (fun K hK => ?_) AllReadyH.nil)
        (go_simp; refine (HP.out _ hE.drew).mono ?_; rintro e w5 ⟨v, rfl, rfl, m5, hP⟩)
        refine hK.out _ _ ⟨(atWm hP (by repeat (first | exact List.Mem.head _ | refine List.Mem.tail _ ?_)) Tryd.isAgg28 Tryd.sizeOf28 rfl), (atVm hP (by repeat (first | exact List.Mem.head _ | refine List.Mem.tail _ ?_)) (by simp [go_sem]) rfl)⟩ (fun hS => ?_)
        clear hK K
        try simp only [Act.put, sb, s0, sz]
        refine takeW 3 ⟨some 49, .binOp .neq 9 (.tmp 47) (.tmp 48) 9, 4, "manifest.go:112", #[⟨1, .data⟩, ⟨2, .data⟩], none⟩ ?_ (.inl ⟨by rfl, ?_⟩) hS ?_
        rotate_left
        · (intro w hSw; (try dsimp only at hSw); go_simp; (try with_reducible rfl))
        try simp only [Act.put, sb, s0, sz]
        refine wpAnyH_done (by kernel_rfl) ?_ _
        all_goals
          refine onlyN_n ?_
          clear hS
          replace hE := hP
          clear hP
          go_wp2_with (first
            | go_skip
            | ((with_reducible (show Go.wpList _ _ _ (Go.Oper.mk _ (.load 28 _) _ _ _ _ :: _) _ _)); refine wpl_loadW hE 0 rfl rfl rfl rfl Tryd.isAgg28 Tryd.sizeOf28 rfl ?_)
            | ((with_reducible (show Go.wpList _ _ _ (Go.Oper.mk _ (.store 28 (.tmp 2) _) _ _ _ _ :: _) _ _)); obtain ⟨⟨z0, z1, z2⟩, hE2⟩ := (hE.front 2 rfl).unpack; clear hE; refine wpl_storeW hE2 0 rfl rfl rfl (xs := [.bool t.dir, .string ⟨t.data.toArray⟩, .slice a t.kids.length c1]) rfl rfl Tryd.sizeOf28 rfl (by simp [Value.oneCell']) rfl ?_; clear hE2; intro w hE; simp only [List.set_cons_zero, List.cons_append, List.nil_append] at hE))
          refine post_mark2 rfl (hE.front 2 rfl) (fun w' hw' => ⟨_, results_cell2 (v := .int .i64 0) rfl hw' 1 rfl rfl Tryd.isAgg28 Tryd.sizeOf28 rfl rfl, _, rfl, ?_⟩)
          refine ⟨anyD D :: anyN b2 :: pt b9 (.cells #[.bool t.dir, .string ⟨t.data.toArray⟩, .slice a t.kids.length c1] 28) :: pt b4 (.cells #[.slice ao es.length c] 22) :: rowEn ao c es :: pt b1 (.cells #[.string ⟨s.toArray⟩] 9) :: pt b5 (.cells #[.bool true] 4) :: (m5 ++ m), .slice a t.kids.length c1, by rw [R.out]; rfl, ?_, ?_⟩
          · have h1 := (anyD_none hw').front 1 rfl
            have h2 := (anyN_of h1).front 1 rfl
            simp only [List.append_assoc, List.cons_append]
            exact h2
          · rw [R.out]
            refine KidsAt.mono (fun p hp W hW => hp W ?_) (KidsAt.monoR (fun v n xs h => knows_anyD h) hK)
            simp only [List.append_assoc, List.cons_append] at hW
            exact (Ent.swap (a := [anyD D, anyN b2, pt b4 (.cells #[.slice ao es.length c] 22), rowEn ao c es, pt b1 (.cells #[.string ⟨s.toArray⟩] 9), pt b5 (.cells #[.bool true] 4)]) (b := m5) ((hW.front 2 rfl).tail)).drop
      | false =>
        have R := SL.hid (show takeP s = (3, .zero) by rw [Htk.out, if_neg (by simpa using heq)])
        refine wp_onlyN ?_
        refine wp_region_held_drew (S := (fun w' => ((Instr.loadAt 28 (.pointer (some ⟨b9, 0, none⟩))).run Tryd.prog w' = .ok (.agg [.bool t.dir, .string ⟨t.data.toArray⟩, .slice a t.kids.length c1].toArray) w') ∧ ((Instr.loadAt 9 (.pointer (some ⟨b1, 0, none⟩))).run Tryd.prog w' = .ok (.string ⟨s.toArray⟩) w'))) (by kernel_rfl) ⟨(atWm hE.drew (by repeat (first | exact List.Mem.head _ | refine List.Mem.tail _ ?_)) Tryd.isAgg28 Tryd.sizeOf28 rfl), (atVm hE.drew (by repeat (first | exact List.Mem.head _ | refine List.Mem.tail _ ?_)) (by simp [go_sem]) rfl)⟩ (fun hS => ?_)
        refine takeW 0 ⟨some 46, .load 28 (.tmp 9), 28, "manifest.go:112", #[], none⟩ ?_ (.inl ⟨by rfl, ?_⟩) hS ?_
        rotate_left
        · (intro w hSw; (try dsimp only at hSw); go_simp; (try with_reducible rfl))
        try simp only [Act.put, sb, s0, sz]
        refine takeW 2 ⟨some 48, .load 9 (.tmp 1), 9, "manifest.go:112", #[], none⟩ ?_ (.inl ⟨by rfl, ?_⟩) hS ?_
        rotate_left
        · (intro w hSw; (try dsimp only at hSw); go_simp; (try with_reducible rfl))
        try simp only [Act.put, sb, s0, sz]
        refine wpAnyH_ready (rs := [1]) (by kernel_rfl) (by simp) ?_
        refine (AllReadyH.cons (o := { dst := some 47, op := Go.Op.call { callee := Go.Callee.value (Go.Operand.func 27), args := #[Go.Operand.tmp 46], argTypes := #[28] }, type := 9, pos := "manifest.go:112", after := #[{ on := 0, ground := Go.Ground.data }], guard := none }) rfl (fun K hK => ?_) AllReadyH.nil)
        (go_simp; refine (HP.out _ hE.drew).mono ?_; rintro e w5 ⟨v, rfl, rfl, m5, hP⟩)
        refine hK.out _ _ ⟨(atWm hP (by repeat (first | exact List.Mem.head _ | refine List.Mem.tail _ ?_)) Tryd.isAgg28 Tryd.sizeOf28 rfl), (atVm hP (by repeat (first | exact List.Mem.head _ | refine List.Mem.tail _ ?_)) (by simp [go_sem]) rfl)⟩ (fun hS => ?_)
        clear hK K
        try simp only [Act.put, sb, s0, sz]
        refine takeW 3 ⟨some 49, .binOp .neq 9 (.tmp 47) (.tmp 48) 9, 4, "manifest.go:112", #[⟨1, .data⟩, ⟨2, .data⟩], none⟩ ?_ (.inl ⟨by rfl, ?_⟩) hS ?_
        rotate_left
        · (intro w hSw; (try dsimp only at hSw); go_simp; (try with_reducible rfl))
        try simp only [Act.put, sb, s0, sz]
        refine wpAnyH_done (by kernel_rfl) ?_ _
        all_goals
          refine onlyN_n ?_
          clear hS
          replace hE := hP
          clear hP
          go_wp2_with (first
            | go_skip
            | ((with_reducible (show Go.wpList _ _ _ (Go.Oper.mk _ (.store 28 (.tmp 2) _) _ _ _ _ :: _) _ _)); obtain ⟨⟨z0, z1, z2⟩, hE2⟩ := (hE.front 2 rfl).unpack; clear hE; refine wpl_storeW hE2 0 rfl rfl rfl (xs := [.bool false, .string ⟨#[]⟩, .slice none 0 0]) rfl rfl Tryd.sizeOf28 rfl (by simp [Value.oneCell']) rfl ?_; clear hE2; intro w hE; simp only [List.set_cons_zero, List.cons_append, List.nil_append] at hE))
          refine post_mark rfl (hE.front 2 rfl) (fun w' hw' => ⟨_, results_cell2 (v := .int .i64 3) rfl hw' 0 rfl rfl Tryd.isAgg28 Tryd.sizeOf28 rfl rfl, _, rfl, TkPost.bad R.out hw'.tail.tail.tail.tail.tail.tail.drop.drop⟩)
theorem Take_any {s : List UInt8} (hs : s.length ≤ 10000000) (hx : ∀ x ∈ cutsN (trimP s), x.length ≤ 1000000) {l : List HProp} {w : World} (hE : Ent l w) :
    Calls Tryd.prog 26 #[.string ⟨s.toArray⟩] w (Ret (TkPost s l)) := by
  by_cases h0 : s = []
  · exact Take_none hs h0 hE
  · exact Take_some hs hx h0 hE
end Go.Proofs.YtjmllpgmbaoebaaDoor
namespace Go.Proofs.YtjmllpgmbaoebaaDoor
open Go.RowKit Go.SL

def T3 : Tr := .nd true [] [([100], .nd true [] [([120], .nd false [34, 0] [])])]
def es3 : List En := [⟨[100], true, []⟩, ⟨[100, 47, 120], false, [34, 0]⟩]
def S3 : List UInt8 := [100, 32, 100, 10, 102, 32, 100, 47, 120, 32, 34, 92, 34, 92, 120, 48, 48, 34, 10]
def S4 : List UInt8 := [102, 32, 120, 32, 34, 0, 34, 10]
set_option maxRecDepth 100000 in
theorem built3 : buildT es3 = (0, T3) := by kernel_rfl
set_option maxRecDepth 100000 in
theorem put3 : linesP (entT 6 [] T3) = S3 := by kernel_rfl
set_option maxRecDepth 100000 in
theorem parse3 : parse S3 = some es3 := by kernel_rfl
theorem take3 : takeP S3 = (0, T3) := by
  rw [takeP, parse3]
  simp only
  rw [built3, if_neg (by simp)]
  simp only
  rw [put3, if_pos rfl]
set_option maxRecDepth 100000 in
theorem parse4 : parse S4 = none := by kernel_rfl
theorem take4 : takeP S4 = (3, .zero) := takeP_none parse4
set_option maxRecDepth 100000 in
theorem all3 : (entT 6 [] T3).length = 2 := by kernel_rfl
set_option maxRecDepth 100000 in
theorem wf3 : Tr.Wf 6 T3 := by
  have h := (build_same es3).2 (by rw [built3])
  rw [built3] at h
  exact h.1.2.1
set_option maxRecDepth 100000 in
theorem ent3 : ∀ x ∈ entT 6 [] T3, x.path.length ≤ 1000000 ∧ x.data.length ≤ 1000000 := by
  have h := (build_same es3).2 (by rw [built3])
  have hp := all_perm h.1
  rw [h.2, built3] at hp
  intro x hx
  have := hp.mem_iff.1 hx
  simp only [es3, List.mem_cons, List.not_mem_nil, or_false] at this
  rcases this with rfl | rfl <;> exact ⟨by decide, by decide⟩
theorem cut3 : ∀ x ∈ cutsN (trimP S3), x.length ≤ 1000000 := by
  intro x hx
  have h1 := (cutsN_len (trimP S3)).2 x hx
  have h2 : (trimP S3).length ≤ 19 := by decide
  omega
theorem cut4 : ∀ x ∈ cutsN (trimP S4), x.length ≤ 1000000 := by
  intro x hx
  have h1 := (cutsN_len (trimP S4)).2 x hx
  have h2 : (trimP S4).length ≤ 19 := by decide
  omega
end Go.Proofs.YtjmllpgmbaoebaaDoor
namespace Go.Proofs.YtjmllpgmbaoebaaDoor
open Go.RowKit Go.SL

set_option maxRecDepth 100000 in
set_option maxHeartbeats 4000000 in
attribute [-go_sem] Instr.loadAt in
theorem wakes30_any {l : List HProp} {w : World} (hE : Ent l w) : Calls Tryd.prog 20 #[] w (Ret fun v w' => v = .bool true ∧ Ent l w') := by
  have HB1 := SL.hid (fun (b : Nat) (L : List HProp) (w : World) (hE : Ent (pt b (.cells #[.string ⟨#[100]⟩, .bool true, .string ⟨#[]⟩, .string ⟨#[100, 47, 120]⟩, .bool false, .string ⟨#[34, 0]⟩] 41) :: L) w) =>
    show Calls Tryd.prog 10 #[.slice (some ⟨b, 0, none⟩) 2 2] w (Ret fun v w' => ∃ m a c, v = .tuple #[.agg #[.bool true, .string ⟨#[]⟩, .slice a 1 c], .int .i64 0] ∧ Ent (m ++ L) w' ∧ KidsAt (m ++ L) (.slice a 1 c) T3.kids) from by
      refine (wk_build (es := es3) (by decide) (by intro x hx; simp only [es3, List.mem_cons, List.not_mem_nil, or_false] at hx; rcases hx with rfl | rfl <;> exact ⟨by decide, by decide⟩) hE).mono ?_
      rintro e w' ⟨v, rfl, m, kv, h, hE, hk⟩
      rw [built3] at h hk
      obtain ⟨a, c, rfl⟩ := hk.slice
      exact ⟨_, rfl, m, a, c, h, hE, hk⟩)
  have HP := SL.hid (fun (A : HProp) (a : Option Addr) (c : Nat) (L : List HProp) (w : World) (hk : KidsAt L (.slice a 1 c) T3.kids) (hE : Ent (A :: L) w) =>
    show Calls Tryd.prog 27 #[.agg #[.bool true, .string ⟨#[]⟩, .slice a 1 c]] w (Ret fun v w' => v = .string ⟨#[100, 32, 100, 10, 102, 32, 100, 47, 120, 32, 34, 92, 34, 92, 120, 48, 48, 34, 10]⟩ ∧ ∃ m, Ent (A :: (m ++ L)) w') from by
      refine (Put_any (t := T3) wf3 (by decide) (hk.suf (List.suffix_cons _ _)) (by rw [all3]; decide) ent3 hE).mono ?_
      rintro e w' ⟨v, rfl, h, m, hE⟩
      rw [put3] at h
      exact ⟨_, rfl, h, m, Ent.swap (a := m) (b := [A]) hE⟩)
  have HT1 := SL.hid (fun (A : HProp) (L : List HProp) (w : World) (hE : Ent (A :: L) w) =>
    show Calls Tryd.prog 26 #[.string ⟨#[100, 32, 100, 10, 102, 32, 100, 47, 120, 32, 34, 92, 34, 92, 120, 48, 48, 34, 10]⟩] w (Ret fun v w' => ∃ m a c, v = .tuple #[.agg #[.bool true, .string ⟨#[]⟩, .slice a 1 c], .int .i64 0] ∧ Ent (A :: (m ++ L)) w' ∧ KidsAt (A :: (m ++ L)) (.slice a 1 c) T3.kids) from by
      refine (Take_any (s := S3) (by decide) cut3 hE).mono ?_
      rintro e w' ⟨v, rfl, m, kv, h, hE, hk⟩
      rw [take3] at h hk
      obtain ⟨a, c, rfl⟩ := hk.slice
      exact ⟨_, rfl, m, a, c, h, Ent.swap (a := m) (b := [A]) hE, hk.mono (fun p hp W hW => hp W (Ent.swap (a := [A]) (b := m) hW))⟩)
  have HT2 := SL.hid (fun (A B : HProp) (L : List HProp) (w : World) (hE : Ent (A :: B :: L) w) =>
    show Calls Tryd.prog 26 #[.string ⟨#[102, 32, 120, 32, 34, 0, 34, 10]⟩] w (Ret fun v w' => ∃ m a c, v = .tuple #[.agg #[.bool false, .string ⟨#[]⟩, .slice a 0 c], .int .i64 3] ∧ Ent (A :: B :: (m ++ L)) w') from by
      refine (Take_any (s := S4) (by decide) cut4 hE).mono ?_
      rintro e w' ⟨v, rfl, m, kv, h, hE, hk⟩
      rw [take4] at h hk
      obtain ⟨a, c, rfl⟩ := hk.slice
      exact ⟨_, rfl, m, a, c, h, Ent.swap (a := m) (b := [A, B]) hE⟩)
  have HEn := SL.hid (fun (Lk : List HProp) (a : Option Addr) (c : Nat) (hk : KidsAt Lk (.slice a 1 c) T3.kids) (L : List HProp) (w : World) (hs : Lk <:+ L) (hE : Ent L w) =>
    show Calls Tryd.prog 13 #[.agg #[.bool true, .string ⟨#[]⟩, .slice a 1 c]] w (Ret fun v w' => ∃ a' c' m, v = .slice a' 2 c' ∧ Ent (rowEn a' c' (entT 6 [] T3) :: (m ++ L)) w') from by
      refine (Entries_any wf3 (by decide) (hk.suf hs) (by rw [all3]; decide) hE).mono ?_
      rintro e w' ⟨v, rfl, ao, c, m, h, hE⟩
      refine ⟨_, rfl, ao, c, m, ?_, hE⟩
      rw [h, all3])
  have HR1 := SL.hid (fun (a4 : Option Addr) (c4 : Nat) (a5 : Option Addr) (c5 : Nat) (m4 m5 L : List HProp) (w : World) (hE : Ent (rowEn a5 c5 (entT 6 [] T3) :: (m5 ++ (rowEn a4 c4 (entT 6 [] T3) :: (m4 ++ L)))) w) =>
    show Calls Tryd.prog 12 #[.slice a4 2 c4, .slice a5 2 c5] w (Ret fun v w' => v = .bool true ∧ Ent (rowEn a5 c5 (entT 6 [] T3) :: (m5 ++ (rowEn a4 c4 (entT 6 [] T3) :: (m4 ++ L)))) w') from by
      have h := Row_same (es := entT 6 [] T3) (by rw [all3]; decide) (ao := a4) (bo := a5) (c := c4) (d := c5) (fun w h => reads_row h.tail.drop 0 rfl) (fun w h => reads_row h 0 rfl) hE
      rw [all3] at h
      exact h)
  have HR2 := SL.hid (fun (a4 : Option Addr) (c4 : Nat) (a5 : Option Addr) (c5 : Nat) (m4 m5 L : List HProp) (w : World) (hE : Ent (rowEn a4 c4 (entT 6 [] T3) :: (m4 ++ (rowEn a5 c5 (entT 6 [] T3) :: (m5 ++ L)))) w) =>
    show Calls Tryd.prog 12 #[.slice a4 2 c4, .slice a5 2 c5] w (Ret fun v w' => v = .bool true ∧ Ent (rowEn a4 c4 (entT 6 [] T3) :: (m4 ++ (rowEn a5 c5 (entT 6 [] T3) :: (m5 ++ L)))) w') from by
      have h := Row_same (es := entT 6 [] T3) (by rw [all3]; decide) (ao := a4) (bo := a5) (c := c4) (d := c5) (fun w h => reads_row h 0 rfl) (fun w h => reads_row h.tail.drop 0 rfl) hE
      rw [all3] at h
      exact h)
  have Tok1 := SL.hid True.intro
  have Tok2 := SL.hid True.intro
  go_enter Tryd.func20, Tryd.ntmps20
  go_wp2_with (first
    | go_skip
    | ((with_reducible (show Go.wpList _ _ _ (Go.Oper.mk _ (.buildSlice 22 2 _) _ _ _ _ :: _) _ _)); refine wpl_build2 hE rfl rfl (xs := [.string ⟨#[100]⟩, .bool true, .string ⟨#[]⟩]) (ys := [.string ⟨#[100, 47, 120]⟩, .bool false, .string ⟨#[34, 0]⟩]) rfl rfl Tryd.underlying22 zs_en Tryd.sizeOf41 (by decide) (by decide) rfl rfl ?_; clear hE; intro s1 w hE)
    | (go_at_call 10; refine (HB1.out _ _ _ hE).mono ?_; clear hE HB1; rintro e w2 ⟨v, rfl, m1, a1, c1, rfl, hE, hKN⟩)
    | (go_at_call 27; refine (HP.out _ _ _ _ _ hKN hE).mono ?_; clear hE HP; rintro e w2 ⟨v, rfl, rfl, mP, hE⟩)
    | (go_at_call 26; refine (HT1.out _ _ _ hE).mono ?_; clear hE HT1; rintro e w2 ⟨v, rfl, mT, a4, c4, rfl, hE, hKM⟩)
    | (go_at_call 26; refine (HT2.out _ _ _ _ hE).mono ?_; clear hE HT2; rintro e w2 ⟨v, rfl, mU, a6, c6, rfl, hE⟩)
    | ((with_reducible (show Go.wpList _ _ _ (Go.Oper.mk _ (.alloc 28) _ _ _ _ :: _) _ _)); clear Tok1; refine wpl_alloc hE rfl rfl (by simp [go_sem]; rfl) ?_; clear hE; intro b1 w hE; simp only [Act.eval, Act.put, List.setIfInBounds_toArray, List.set_cons_zero, List.set_cons_succ, getD_lit, List.getD_cons_succ, List.getD_cons_zero, Value.cells] at hE)
    | ((with_reducible (show Go.wpList _ _ _ (Go.Oper.mk _ (.alloc 28) _ _ _ _ :: _) _ _)); clear Tok2; refine wpl_alloc hE rfl rfl (by simp [go_sem]; rfl) ?_; clear hE; intro b4 w hE; simp only [Act.eval, Act.put, List.setIfInBounds_toArray, List.set_cons_zero, List.set_cons_succ, getD_lit, List.getD_cons_succ, List.getD_cons_zero, Value.cells] at hE)
    | ((with_reducible (show Go.wpList _ _ _ (Go.Oper.mk _ (.alloc 28) _ _ _ _ :: _) _ _)); refine wpl_alloc hE rfl rfl (by simp [go_sem]; rfl) ?_; clear hE; intro b6 w hE; simp only [Act.eval, Act.put, List.setIfInBounds_toArray, List.set_cons_zero, List.set_cons_succ, getD_lit, List.getD_cons_succ, List.getD_cons_zero, Value.cells] at hE)
    | ((with_reducible (show Go.wpList _ _ _ (Go.Oper.mk _ (.store 28 _ _) _ _ _ _ :: _) _ _)); refine wpl_storeW hE 0 rfl rfl rfl (xs := [_, _, _]) rfl rfl Tryd.sizeOf28 rfl (by simp [Value.oneCell']) rfl ?_; clear hE; intro w hE; simp only [List.set_cons_zero] at hE)
    | ((with_reducible (show Go.wpList _ _ _ (Go.Oper.mk _ (.load 28 _) _ _ _ _ :: _) _ _)); (first | (refine wpl_loadW hE 0 rfl rfl rfl rfl Tryd.isAgg28 Tryd.sizeOf28 rfl ?_) | (refine wpl_loadW hE 1 rfl rfl rfl rfl Tryd.isAgg28 Tryd.sizeOf28 rfl ?_) | (refine wpl_loadW hE 2 rfl rfl rfl rfl Tryd.isAgg28 Tryd.sizeOf28 rfl ?_) | (refine wpl_loadW hE 3 rfl rfl rfl rfl Tryd.isAgg28 Tryd.sizeOf28 rfl ?_) | (refine wpl_loadW hE 4 rfl rfl rfl rfl Tryd.isAgg28 Tryd.sizeOf28 rfl ?_) | (refine wpl_loadW hE 5 rfl rfl rfl rfl Tryd.isAgg28 Tryd.sizeOf28 rfl ?_) | (refine wpl_loadW hE 6 rfl rfl rfl rfl Tryd.isAgg28 Tryd.sizeOf28 rfl ?_) | (refine wpl_loadW hE 7 rfl rfl rfl rfl Tryd.isAgg28 Tryd.sizeOf28 rfl ?_))))
  have HM := SL.hid (HEn.out _ a4 c4 (hKM.mono (fun p hp W (hW : Ent (pt b6 (.cells #[.bool false, .string ⟨#[]⟩, .slice a6 0 c6] 28) :: pt b4 (.cells #[.bool true, .string ⟨#[]⟩, .slice a4 1 c4] 28) :: pt b1 (.cells #[.bool true, .string ⟨#[]⟩, .slice a1 1 c1] 28) :: (mU ++ (mT ++ (mP ++ (m1 ++ l))))) W) => hp W ((Ent.swap (a := [pt b6 (.cells #[.bool false, .string ⟨#[]⟩, .slice a6 0 c6] 28), pt b4 (.cells #[.bool true, .string ⟨#[]⟩, .slice a4 1 c4] 28), pt b1 (.cells #[.bool true, .string ⟨#[]⟩, .slice a1 1 c1] 28)]) (b := mU) hW).drop.tail.tail))))
  have HN := SL.hid (HEn.out _ a1 c1 hKN)
  clear hKM hKN HEn
  generalize entT 6 [] T3 = all at *
  refine wp_region_held_drew (S := (fun w' => ((Instr.loadAt 28 (.pointer (some ⟨b4, 0, none⟩))).run Tryd.prog w' = .ok (.agg [.bool true, .string ⟨#[]⟩, .slice a4 1 c4].toArray) w') ∧ ((Instr.loadAt 28 (.pointer (some ⟨b1, 0, none⟩))).run Tryd.prog w' = .ok (.agg [.bool true, .string ⟨#[]⟩, .slice a1 1 c1].toArray) w'))) (by kernel_rfl) ⟨(atWm hE.drew (by repeat (first | exact List.Mem.head _ | refine List.Mem.tail _ ?_)) Tryd.isAgg28 Tryd.sizeOf28 rfl), (atWm hE.drew (by repeat (first | exact List.Mem.head _ | refine List.Mem.tail _ ?_)) Tryd.isAgg28 Tryd.sizeOf28 rfl)⟩ (fun hS => ?_)
  refine takeW 0 ⟨some 26, .move (.tmp 2), 29, "law.go:19", #[], none⟩ ?_ (.inl ⟨by rfl, ?_⟩) hS ?_
  rotate_left
  · (intro w hSw; (try dsimp only at hSw); go_simp; (try with_reducible rfl))
  try simp only [Act.put, sb, s0, sz]
  refine takeW 1 ⟨some 27, .binOp .eql 29 (.tmp 26) (.const (.int .i64 0)) 29, 4, "law.go:19", #[⟨0, .data⟩], none⟩ ?_ (.inl ⟨by rfl, ?_⟩) hS ?_
  rotate_left
  · (intro w hSw; (try dsimp only at hSw); go_simp; (try with_reducible rfl))
  try simp only [Act.put, sb, s0, sz]
  refine takeW 2 ⟨some 28, .move (.tmp 27), 4, "law.go:19", #[⟨1, .data⟩], none⟩ ?_ (.inl ⟨by rfl, ?_⟩) hS ?_
  rotate_left
  · (intro w hSw; (try dsimp only at hSw); go_simp; (try with_reducible rfl))
  try simp only [Act.put, sb, s0, sz]
  refine takeW 3 ⟨some 29, .move (.tmp 3), 9, "law.go:19", #[⟨2, .guard⟩], some (2, true)⟩ ?_ (.inl ⟨by rfl, ?_⟩) hS ?_
  rotate_left
  · (intro w hSw; (try dsimp only at hSw); go_simp; (try with_reducible rfl))
  try simp only [Act.put, sb, s0, sz]
  refine takeW 4 ⟨some 30, .binOp .eql 9 (.tmp 29) (.const (.string { data := #[100, 32, 100, 10, 102, 32, 100, 47, 120, 32, 34, 92, 34, 92, 120, 48, 48, 34, 10] })) 9, 4, "law.go:19", #[⟨3, .data⟩, ⟨2, .guard⟩], some (2, true)⟩ ?_ (.inl ⟨by rfl, ?_⟩) hS ?_
  rotate_left
  · (intro w hSw; (try dsimp only at hSw); go_simp; (try with_reducible rfl))
  try simp only [Act.put, sb, s0, sz]
  refine takeW 5 ⟨some 31, .pick (.tmp 28) (.tmp 30) (.const (.bool false)), 4, "law.go:19", #[⟨2, .data⟩, ⟨4, .data⟩], none⟩ ?_ (.inl ⟨by rfl, ?_⟩) hS ?_
  rotate_left
  · (intro w hSw; (try dsimp only at hSw); go_simp; (try with_reducible rfl))
  try simp only [Act.put, sb, s0, sz]
  refine takeW 6 ⟨some 32, .move (.tmp 31), 4, "law.go:19", #[⟨5, .data⟩, ⟨2, .chain⟩], none⟩ ?_ (.inl ⟨by rfl, ?_⟩) hS ?_
  rotate_left
  · (intro w hSw; (try dsimp only at hSw); go_simp; (try with_reducible rfl))
  try simp only [Act.put, sb, s0, sz]
  refine takeW 7 ⟨some 33, .move (.tmp 5), 29, "law.go:19", #[⟨6, .guard⟩], some (6, true)⟩ ?_ (.inl ⟨by rfl, ?_⟩) hS ?_
  rotate_left
  · (intro w hSw; (try dsimp only at hSw); go_simp; (try with_reducible rfl))
  try simp only [Act.put, sb, s0, sz]
  refine takeW 8 ⟨some 34, .binOp .eql 29 (.tmp 33) (.const (.int .i64 0)) 29, 4, "law.go:19", #[⟨7, .data⟩, ⟨6, .guard⟩], some (6, true)⟩ ?_ (.inl ⟨by rfl, ?_⟩) hS ?_
  rotate_left
  · (intro w hSw; (try dsimp only at hSw); go_simp; (try with_reducible rfl))
  try simp only [Act.put, sb, s0, sz]
  refine takeW 9 ⟨some 35, .pick (.tmp 32) (.tmp 34) (.const (.bool false)), 4, "law.go:19", #[⟨6, .data⟩, ⟨8, .data⟩], none⟩ ?_ (.inl ⟨by rfl, ?_⟩) hS ?_
  rotate_left
  · (intro w hSw; (try dsimp only at hSw); go_simp; (try with_reducible rfl))
  try simp only [Act.put, sb, s0, sz]
  refine takeW 10 ⟨some 36, .move (.tmp 35), 4, "law.go:19", #[⟨9, .data⟩, ⟨6, .chain⟩], none⟩ ?_ (.inl ⟨by rfl, ?_⟩) hS ?_
  rotate_left
  · (intro w hSw; (try dsimp only at hSw); go_simp; (try with_reducible rfl))
  try simp only [Act.put, sb, s0, sz]
  refine takeW 11 ⟨some 37, .load 28 (.tmp 4), 28, "law.go:19", #[⟨10, .guard⟩], some (10, true)⟩ ?_ (.inl ⟨by rfl, ?_⟩) hS ?_
  rotate_left
  · (intro w hSw; (try dsimp only at hSw); go_simp; (try with_reducible rfl))
  try simp only [Act.put, sb, s0, sz]
  refine takeW 13 ⟨some 39, .load 28 (.tmp 1), 28, "law.go:19", #[⟨10, .guard⟩], some (10, true)⟩ ?_ (.inl ⟨by rfl, ?_⟩) hS ?_
  rotate_left
  · (intro w hSw; (try dsimp only at hSw); go_simp; (try with_reducible rfl))
  try simp only [Act.put, sb, s0, sz]
  refine wpAnyH_ready (rs := [12]) (by kernel_rfl) (by simp) ?_
  refine (AllReadyH.cons (o := { dst := some 38, op := Go.Op.call { callee := Go.Callee.value (Go.Operand.func 13), args := #[Go.Operand.tmp 37], argTypes := #[28] }, type := 22, pos := "law.go:19", after := #[{ on := 11, ground := Go.Ground.data }, { on := 10, ground := Go.Ground.chain }, { on := 10, ground := Go.Ground.guard }], guard := some (10, true) }) rfl (fun K hK => ?_) AllReadyH.nil)
  (go_simp; (first | have H := HM.out _ _ (by repeat (first | exact List.suffix_refl _ | refine List.IsSuffix.trans ?_ (List.suffix_cons _ _) | refine List.IsSuffix.trans ?_ (List.suffix_append _ _))) hR | have H := HM.out _ _ (by repeat (first | exact List.suffix_refl _ | refine List.IsSuffix.trans ?_ (List.suffix_cons _ _) | refine List.IsSuffix.trans ?_ (List.suffix_append _ _))) hE.drew); refine H.mono ?_; clear H; rintro e w3 ⟨v, rfl, x4, y4, n4, rfl, hN⟩)
  refine hK.out _ _ (by first | exact ⟨(atWm hN.tail.drop (by repeat (first | exact List.Mem.head _ | refine List.Mem.tail _ ?_)) Tryd.isAgg28 Tryd.sizeOf28 rfl), (atWm hN.tail.drop (by repeat (first | exact List.Mem.head _ | refine List.Mem.tail _ ?_)) Tryd.isAgg28 Tryd.sizeOf28 rfl)⟩ | exact ⟨(atWm hN.tail.drop.tail.drop (by repeat (first | exact List.Mem.head _ | refine List.Mem.tail _ ?_)) Tryd.isAgg28 Tryd.sizeOf28 rfl), (atWm hN.tail.drop.tail.drop (by repeat (first | exact List.Mem.head _ | refine List.Mem.tail _ ?_)) Tryd.isAgg28 Tryd.sizeOf28 rfl)⟩) (fun hS => ?_)
  clear hK K
  try simp only [Act.put, sb, s0, sz]
  refine wpAnyH_ready (rs := [14]) (by kernel_rfl) (by simp) ?_
  refine (AllReadyH.cons (o := { dst := some 40, op := Go.Op.call { callee := Go.Callee.value (Go.Operand.func 13), args := #[Go.Operand.tmp 39], argTypes := #[28] }, type := 22, pos := "law.go:19", after := #[{ on := 13, ground := Go.Ground.data }, { on := 12, ground := Go.Ground.chain }, { on := 10, ground := Go.Ground.guard }], guard := some (10, true) }) rfl (fun K hK => ?_) AllReadyH.nil)
  (go_simp; (first | have H := HN.out _ _ (by repeat (first | exact List.suffix_refl _ | refine List.IsSuffix.trans ?_ (List.suffix_cons _ _) | refine List.IsSuffix.trans ?_ (List.suffix_append _ _))) hN | have H := HN.out _ _ (by repeat (first | exact List.suffix_refl _ | refine List.IsSuffix.trans ?_ (List.suffix_cons _ _) | refine List.IsSuffix.trans ?_ (List.suffix_append _ _))) hE.drew); refine H.mono ?_; clear H; rintro e w4 ⟨v, rfl, x5, y5, n5, rfl, hR⟩)
  refine hK.out _ _ (by first | exact ⟨(atWm hR.tail.drop (by repeat (first | exact List.Mem.head _ | refine List.Mem.tail _ ?_)) Tryd.isAgg28 Tryd.sizeOf28 rfl), (atWm hR.tail.drop (by repeat (first | exact List.Mem.head _ | refine List.Mem.tail _ ?_)) Tryd.isAgg28 Tryd.sizeOf28 rfl)⟩ | exact ⟨(atWm hR.tail.drop.tail.drop (by repeat (first | exact List.Mem.head _ | refine List.Mem.tail _ ?_)) Tryd.isAgg28 Tryd.sizeOf28 rfl), (atWm hR.tail.drop.tail.drop (by repeat (first | exact List.Mem.head _ | refine List.Mem.tail _ ?_)) Tryd.isAgg28 Tryd.sizeOf28 rfl)⟩) (fun hS => ?_)
  clear hK K
  try simp only [Act.put, sb, s0, sz]
  refine wpAnyH_ready (rs := [15]) (by kernel_rfl) (by simp) ?_
  refine (AllReadyH.cons (o := { dst := some 41, op := Go.Op.call { callee := Go.Callee.value (Go.Operand.func 12), args := #[Go.Operand.tmp 38, Go.Operand.tmp 40], argTypes := #[22, 22] }, type := 4, pos := "law.go:19", after := #[{ on := 12, ground := Go.Ground.data }, { on := 14, ground := Go.Ground.data }, { on := 14, ground := Go.Ground.chain }, { on := 10, ground := Go.Ground.guard }], guard := some (10, true) }) rfl (fun K hK => ?_) AllReadyH.nil)
  (go_simp; (first | have H := HR1.out _ _ _ _ _ _ _ _ hR | have H := HR2.out _ _ _ _ _ _ _ _ hN); refine H.mono ?_; clear H; rintro e w5 ⟨v, rfl, rfl, hO⟩)
  refine hK.out _ _ ⟨(atWm hO.tail.drop.tail.drop (by repeat (first | exact List.Mem.head _ | refine List.Mem.tail _ ?_)) Tryd.isAgg28 Tryd.sizeOf28 rfl), (atWm hO.tail.drop.tail.drop (by repeat (first | exact List.Mem.head _ | refine List.Mem.tail _ ?_)) Tryd.isAgg28 Tryd.sizeOf28 rfl)⟩ (fun hS => ?_)
  clear hK K
  try simp only [Act.put, sb, s0, sz]
  refine takeW 16 ⟨some 42, .pick (.tmp 36) (.tmp 41) (.const (.bool false)), 4, "law.go:19", #[⟨10, .data⟩, ⟨15, .data⟩], none⟩ ?_ (.inl ⟨by rfl, ?_⟩) hS ?_
  rotate_left
  · (intro w hSw; (try dsimp only at hSw); go_simp; (try with_reducible rfl))
  try simp only [Act.put, sb, s0, sz]
  refine takeW 17 ⟨some 43, .move (.tmp 42), 4, "law.go:19", #[⟨16, .data⟩, ⟨15, .chain⟩], none⟩ ?_ (.inl ⟨by rfl, ?_⟩) hS ?_
  rotate_left
  · (intro w hSw; (try dsimp only at hSw); go_simp; (try with_reducible rfl))
  try simp only [Act.put, sb, s0, sz]
  refine takeW 18 ⟨some 44, .move (.tmp 7), 29, "law.go:19", #[⟨17, .guard⟩], some (17, true)⟩ ?_ (.inl ⟨by rfl, ?_⟩) hS ?_
  rotate_left
  · (intro w hSw; (try dsimp only at hSw); go_simp; (try with_reducible rfl))
  try simp only [Act.put, sb, s0, sz]
  refine takeW 19 ⟨some 45, .binOp .eql 29 (.tmp 44) (.const (.int .i64 3)) 29, 4, "law.go:19", #[⟨18, .data⟩, ⟨17, .guard⟩], some (17, true)⟩ ?_ (.inl ⟨by rfl, ?_⟩) hS ?_
  rotate_left
  · (intro w hSw; (try dsimp only at hSw); go_simp; (try with_reducible rfl))
  try simp only [Act.put, sb, s0, sz]
  refine takeW 20 ⟨some 46, .pick (.tmp 43) (.tmp 45) (.const (.bool false)), 4, "law.go:19", #[⟨17, .data⟩, ⟨19, .data⟩], none⟩ ?_ (.inl ⟨by rfl, ?_⟩) hS ?_
  rotate_left
  · (intro w hSw; (try dsimp only at hSw); go_simp; (try with_reducible rfl))
  try simp only [Act.put, sb, s0, sz]
  refine takeW 21 ⟨some 0, .assign (.tmp 46), 4, "law.go:19", #[⟨20, .data⟩, ⟨17, .chain⟩, ⟨0, .phase⟩, ⟨1, .phase⟩, ⟨2, .phase⟩, ⟨3, .phase⟩, ⟨4, .phase⟩, ⟨5, .phase⟩, ⟨6, .phase⟩, ⟨7, .phase⟩, ⟨8, .phase⟩, ⟨9, .phase⟩, ⟨10, .phase⟩, ⟨11, .phase⟩, ⟨12, .phase⟩, ⟨13, .phase⟩, ⟨14, .phase⟩, ⟨15, .phase⟩, ⟨16, .phase⟩, ⟨17, .phase⟩, ⟨18, .phase⟩, ⟨19, .phase⟩, ⟨20, .phase⟩], none⟩ ?_ (.inl ⟨by rfl, ?_⟩) hS ?_
  rotate_left
  · (intro w hSw; (try dsimp only at hSw); go_simp; (try with_reducible rfl))
  try simp only [Act.put, sb, s0, sz]
  refine wpAnyH_done (by kernel_rfl) ?_ _
  all_goals
    replace hE := hO.tail.drop.tail.drop
    clear hO hS hN hR
    go_wp2
    go_ret
    exact ⟨_, rfl, rfl, hE.tail.tail.tail.drop.drop.drop.drop⟩
end Go.Proofs.YtjmllpgmbaoebaaDoor
namespace Go.Proofs.YtjmllpgmbaoebaaDoor
open Go.RowKit Go.SL

/-- an entry whose path is of plain bytes, and a directory's is without data -/
def Clean (x : En) : Prop := (∀ c ∈ x.path, 33 ≤ c.toNat ∧ c.toNat ≤ 126) ∧ (x.dir = true → x.data = [])
theorem name_bytes {s : List UInt8} (h : isName s = true) {c : UInt8} (hc : c ∈ s) : 33 ≤ c.toNat ∧ c.toNat ≤ 126 := by
  rw [isName, Bool.and_eq_true] at h
  have h1 := List.all_eq_true.1 h.1 c hc
  simp only [goodB, Bool.and_eq_true, decide_eq_true_eq] at h1
  exact ⟨h1.1, h1.2.1⟩
theorem join_bytes : ∀ (xs : List (List UInt8)), xs ≠ [] → xs.all isName = true → ∀ c ∈ joinP xs, 33 ≤ c.toNat ∧ c.toNat ≤ 126
  | [], h, _, _, _ => absurd rfl h
  | [x], _, h, c, hc => by
    rw [joinP_one] at hc
    exact name_bytes (by simpa using h) hc
  | x :: y :: r, _, h, c, hc => by
    rw [joinP_cons x (by simp)] at hc
    rw [List.all_cons, Bool.and_eq_true] at h
    rcases List.mem_append.1 hc with hc | hc
    · exact name_bytes h.1 hc
    · rcases List.mem_cons.1 hc with rfl | hc
      · decide
      · exact join_bytes (y :: r) (by simp) h.2 c hc
theorem clean_ent {t : Tr} (hw : Tr.Wf 6 t) {y : En} (hy : y ∈ entT 6 [] t) : Clean y := by
  obtain ⟨s, k, hs, hg, rfl⟩ := (entT_mem hw).1 hy
  obtain ⟨hqa, _⟩ := get_names hw hg
  obtain ⟨e, hk⟩ := wf_get hw hg
  exact ⟨by simpa using join_bytes s hs hqa, fun hd => Tr.wf_data hk hd⟩
theorem idx_app : ∀ (p q : List UInt8), (∀ c ∈ p, c ≠ 32) → Lib.indexByte (p ++ 32 :: q) 32 = p.length
  | [], q, _ => by simp [Lib.indexByte]
  | a :: p, q, h => by
    have ha : (a == 32) = false := by simpa using h a (by simp)
    have ih := idx_app p q (fun c hc => h c (by simp [hc]))
    rw [List.cons_append, Lib.indexByte, ha, ih]
    have : (((p.length : Nat) : Int) == -1) = false := by rw [beq_eq_false_iff_ne]; omega
    simp [this]
theorem entry_line {x : En} (h : Clean x) : entryP (lineP x) = (x, true) := by
  obtain ⟨p, d, b⟩ := x
  obtain ⟨h1, h2⟩ := h
  simp only at h1 h2
  cases d with
  | true =>
    have hb : b = [] := h2 rfl
    subst hb
    have e : lineP ⟨p, true, []⟩ = 100 :: 32 :: p := rfl
    have hp : hasP (100 :: 32 :: p) [100, 32] = true := by simp [hasP, Lib.hasPrefix]
    rw [e, entryP, if_pos hp, cutPx, if_pos hp]
    rfl
  | false =>
    have e : lineP ⟨p, false, b⟩ = 102 :: 32 :: (p ++ 32 :: quoteP b) := by
      rw [lineP, if_neg (by simp)]
      simp
    have hp : hasP (102 :: 32 :: (p ++ 32 :: quoteP b)) [100, 32] = false := rfl
    have hq : hasP (102 :: 32 :: (p ++ 32 :: quoteP b)) [102, 32] = true := by simp [hasP, Lib.hasPrefix]
    have hc : cutPx (102 :: 32 :: (p ++ 32 :: quoteP b)) [102, 32] = p ++ 32 :: quoteP b := by rw [cutPx, if_pos hq]; rfl
    have hi := idx_app p (quoteP b) (fun c hc => by
      have := (h1 c hc).1
      rintro rfl
      exact absurd this (by decide))
    have hs : cutSp (p ++ 32 :: quoteP b) = (p, quoteP b, true) := by
      rw [cutSp, hi, if_pos (by omega), Int.toNat_natCast]
      simp
    rw [e, entryP, if_neg (by rw [hp]; simp), hc, hs, hq]
    simp only
    rw [unq_quote]
    rfl
theorem line_free {x : En} (h : Clean x) {c : UInt8} (hc : c ∈ lineP x) : 32 ≤ c.toNat ∧ c.toNat ≤ 126 := by
  unfold lineP at hc
  split at hc
  · rcases List.mem_append.1 hc with hc | hc
    · simp only [List.mem_cons, List.not_mem_nil, or_false] at hc
      rcases hc with rfl | rfl <;> decide
    · have := h.1 c hc; omega
  · rcases List.mem_append.1 hc with hc | hc
    · rcases List.mem_append.1 hc with hc | hc
      · rcases List.mem_append.1 hc with hc | hc
        · simp only [List.mem_cons, List.not_mem_nil, or_false] at hc
          rcases hc with rfl | rfl <;> decide
        · have := h.1 c hc; omega
      · simp only [List.mem_cons, List.not_mem_nil, or_false] at hc
        subst hc; decide
    · exact quoteP_plain hc
theorem line_no {x : En} (h : Clean x) {c : UInt8} (hc : c ∈ lineP x) : c ≠ 10 := by
  rintro rfl
  exact absurd (line_free h hc).1 (by decide)
/-- the lines without the last one's end -/
def bodyP : En → List En → List UInt8
  | x, [] => lineP x
  | x, y :: r => lineP x ++ 10 :: bodyP y r
theorem lines_body : ∀ (x : En) (r : List En), linesP (x :: r) = bodyP x r ++ [10]
  | x, [] => by simp [linesP, bodyP]
  | x, y :: r => by
    have := lines_body y r
    rw [linesP, List.flatMap_cons, bodyP]
    change _ ++ linesP (y :: r) = _
    rw [this]
    simp
theorem cuts_body : ∀ (x : En) (r : List En), (∀ z ∈ x :: r, Clean z) → cutsN (bodyP x r) = (x :: r).map lineP
  | x, [], h => cutsN_free (fun c hc => line_no (h x (by simp)) hc)
  | x, y :: r, h => by
    rw [bodyP, cutsN_app _ (fun c hc => line_no (h x (by simp)) hc), cuts_body y r (fun z hz => h z (by simp [hz]))]
    rfl
theorem parse_lines {es : List En} (h : ∀ x ∈ es, Clean x) : parse (linesP es) = some es := by
  cases es with
  | nil => rfl
  | cons x r =>
    have hb := lines_body x r
    have hs : sufP (linesP (x :: r)) = true := by
      rw [sufP, Lib.hasSuffix, hb]
      exact List.isSuffixOf_iff_suffix.2 (List.suffix_append _ _)
    have ht : trimP (linesP (x :: r)) = bodyP x r := by
      rw [trimP, Lib.trimSuffix, if_pos (show Lib.hasSuffix (linesP (x :: r)) [10] = true from hs), hb]
      simp
    have hne : linesP (x :: r) ≠ [] := by rw [hb]; simp
    have hall : ((x :: r).map lineP).all okL = true := by
      rw [List.all_map]
      refine List.all_eq_true.2 fun y hy => ?_
      simp only [Function.comp_apply, okL]
      rw [entry_line (h y hy)]
    rw [parse, if_neg hne, ht, cuts_body x r h, if_pos ⟨hs, hall⟩, List.map_map]
    congr 1
    rw [List.map_congr_left (g := id) (fun y hy => by simp only [Function.comp_apply, entL, id]; rw [entry_line (h y hy)]), List.map_id]
theorem take_put {t : Tr} {es : List En} (hG : Good t es) (h64 : es.length ≤ 64) : takeP (linesP (entT 6 [] t)) = (0, t) := by
  rw [takeP, parse_lines (fun x hx => clean_ent hG.2.1 hx)]
  simp only
  rw [build_entries hG h64, if_neg (by simp)]
  simp only
  rw [if_pos trivial]
end Go.Proofs.YtjmllpgmbaoebaaDoor
namespace Go.SL
theorem results_c3 {P : Program} {l : List HProp} {w : World} {fn : Func} {k j i : Tmp} {t : TypeId} (h : fn.results = #[.cell k t, .tmp j, .tmp i]) {tmps : Array Value} (hE : Ent l w) (q : Nat) {b : Nat} {xs : List Value} {T : TypeId} {fz : Nat × Nat} (hi : l[q]? = some (pt b (.cells xs.toArray T fz)))
    (hp : tmps.getD k undef = .pointer (some ⟨b, 0, none⟩)) (hA : ∀ w, (isAgg t).run P w = .ok true w) {n : Nat} (hn : ∀ w, (Go.sizeOf t).run P w = .ok n w) (hl : xs.length = n) {v u : Value} (hv : tmps.getD j undef = v) (hu : tmps.getD i undef = u) : (results fn tmps).run P w = .ok (.tuple #[.agg xs.toArray, v, u]) w := by
  have hp' : tmps[k]?.getD undef = .pointer (some ⟨b, 0, none⟩) := by simpa using hp
  have hv' : tmps[j]?.getD undef = v := by simpa using hv
  have hu' : tmps[i]?.getD undef = u := by simpa using hu
  simp only [results, h]
  simp [hp', hv', hu', asAddr, run_resultA hE q hi hA hn hl]
end Go.SL
namespace Go.Proofs.YtjmllpgmbaoebaaDoor
open Go.RowKit Go.SL

def treeP (es : List En) : Option Tr := if great es = true then none else if (buildT es).1 = 0 then some (buildT es).2 else none
def TnPost (l : List HProp) (v : Value) (w' : World) : Prop := ∃ (m : List HProp) (a : Option Addr) (c : Nat) (a' : Option Addr) (c' : Nat), v = .tuple #[.agg #[.bool false, .string ⟨#[]⟩, .slice a 0 c], .slice a' 0 c', .bool false] ∧ Ent (m ++ l) w'
def TgPost (t : Tr) (l : List HProp) (v : Value) (w' : World) : Prop := ∃ (m : List HProp) (a : Option Addr) (c : Nat) (a' : Option Addr) (c' : Nat), v = .tuple #[.agg #[.bool t.dir, .string ⟨t.data.toArray⟩, .slice a t.kids.length c], .slice a' (entT 6 [] t).length c', .bool true] ∧ Ent (m ++ l) w' ∧ KidsAt (m ++ l) (.slice a t.kids.length c) t.kids ∧ Knows (m ++ l) (reads (.slice a' (entT 6 [] t).length c') (entT 6 [] t).length ((entT 6 [] t).flatMap enC))
theorem zero_wf : Tr.Wf 6 .zero := ⟨fun _ => rfl, fun _ => rfl, fun i h => absurd h (by simp [Tr.zero, Tr.names, Tr.kids]), Nat.zero_le _, Nat.zero_le _, fun k h => (by simp [Tr.zero, Tr.kids] at h)⟩
theorem zero_ent : entT 6 [] .zero = [] := rfl
set_option maxRecDepth 100000 in
set_option maxHeartbeats 4000000 in
attribute [-go_sem] Instr.loadAt in
theorem Tree_none {es : List En} (h : treeP es = none) {ao : Option Addr} {c : Nat} {l : List HProp} {w : World} (hk : Knows l (reads (.slice ao es.length c) es.length (es.flatMap enC))) (hE : Ent l w) :
    Calls Tryd.prog 25 #[.slice ao es.length c] w (Ret (TnPost l)) := by
  have HGr := SL.hid (fun (L : List HProp) (w : World) (hs : l <:+ L) (h : Ent L w) => show Calls Tryd.prog 8 #[.slice ao es.length c] w (Ret fun v w' => v = .bool (great es) ∧ Ent L w') from Great_any (hk.suf hs) h)
  have Tok := SL.hid True.intro
  cases hgr : great es with
  | true =>
    rw [hgr] at HGr
    clear hgr h
    go_enter Tryd.func25, Tryd.ntmps25
    go_wp2_with (first
      | go_skip
      | ((with_reducible (show Go.wpList _ _ _ (Go.Oper.mk _ (.alloc _) _ _ _ _ :: _) _ _)); refine wpl_alloc hE rfl rfl (by simp [go_sem]; rfl) ?_; clear hE; intro b2 w hE; simp only [Act.eval, Act.put, List.setIfInBounds_toArray, List.set_cons_zero, List.set_cons_succ, getD_lit, List.getD_cons_succ, List.getD_cons_zero, Value.cells] at hE)
      | (go_at_call 8; refine (HGr.out _ _ (List.suffix_cons _ _) hE).mono ?_; clear hE; rintro e w2 ⟨v, rfl, rfl, hE⟩)
      | ((with_reducible (show Go.wpList _ _ _ (Go.Oper.mk _ (.store 28 _ _) _ _ _ _ :: _) _ _)); (first | (refine wpl_storeW hE 0 rfl rfl rfl (xs := [.bool false, .string ⟨#[]⟩, .slice none 0 0]) rfl rfl Tryd.sizeOf28 rfl (by simp [Value.oneCell']) rfl ?_) | (refine wpl_storeW hE 1 rfl rfl rfl (xs := [.bool false, .string ⟨#[]⟩, .slice none 0 0]) rfl rfl Tryd.sizeOf28 rfl (by simp [Value.oneCell']) rfl ?_) | (refine wpl_storeW hE 2 rfl rfl rfl (xs := [.bool false, .string ⟨#[]⟩, .slice none 0 0]) rfl rfl Tryd.sizeOf28 rfl (by simp [Value.oneCell']) rfl ?_) | (refine wpl_storeW hE 3 rfl rfl rfl (xs := [.bool false, .string ⟨#[]⟩, .slice none 0 0]) rfl rfl Tryd.sizeOf28 rfl (by simp [Value.oneCell']) rfl ?_) | (refine wpl_storeW hE 4 rfl rfl rfl (xs := [.bool false, .string ⟨#[]⟩, .slice none 0 0]) rfl rfl Tryd.sizeOf28 rfl (by simp [Value.oneCell']) rfl ?_) | (refine wpl_storeW hE 5 rfl rfl rfl (xs := [.bool false, .string ⟨#[]⟩, .slice none 0 0]) rfl rfl Tryd.sizeOf28 rfl (by simp [Value.oneCell']) rfl ?_) | (refine wpl_storeW hE 6 rfl rfl rfl (xs := [.bool false, .string ⟨#[]⟩, .slice none 0 0]) rfl rfl Tryd.sizeOf28 rfl (by simp [Value.oneCell']) rfl ?_) | (refine wpl_storeW hE 7 rfl rfl rfl (xs := [.bool false, .string ⟨#[]⟩, .slice none 0 0]) rfl rfl Tryd.sizeOf28 rfl (by simp [Value.oneCell']) rfl ?_)); clear hE; intro w hE; simp only [List.set_cons_zero, List.set_cons_succ] at hE))
    refine bodyPost_ret (results_c3 rfl hE 0 rfl rfl Tryd.isAgg28 Tryd.sizeOf28 rfl rfl rfl) rfl ?_
    exact ⟨_, rfl, [], none, 0, none, 0, rfl, hE.tail⟩
  | false =>
    obtain ⟨hle, hbd⟩ := great_not.1 hgr
    have hne : (buildT es).1 ≠ 0 := by
      intro h0
      rw [treeP, if_neg (by rw [hgr]; simp), if_pos h0] at h
      cases h
    have hz := buildT_zero hne
    have hne2 : ((buildT es).1 == 0) = false := by simpa using hne
    rw [hgr] at HGr
    have HBu := SL.hid (fun (b2 : Nat) (w : World) (h : Ent (anyN b2 :: l) w) => show Calls Tryd.prog 10 #[.slice ao es.length c] w (Ret fun v w' => ∃ m a c1, v = .tuple #[.agg #[.bool false, .string ⟨#[]⟩, .slice a 0 c1], .int .i64 (buildT es).1] ∧ Ent (anyN b2 :: (m ++ l)) w' ∧ KidsAt (anyN b2 :: (m ++ l)) (.slice a 0 c1) []) from by
      refine (Build_all (fun x hx => ⟨by have := (hbd x hx).1; omega, by have := (hbd x hx).2; omega⟩) (hk.suf (List.suffix_cons _ _)) h).mono ?_
      rintro e w' ⟨v, rfl, m, kv, h, hE, hK⟩
      rw [hz] at h hK
      obtain ⟨a, c', rfl⟩ := hK.slice
      exact ⟨_, rfl, m, a, c', h, Ent.swap (a := m) (b := [anyN b2]) hE, hK.mono (fun p hp W hW => hp W (Ent.swap (a := [anyN b2]) (b := m) hW))⟩)
    have HEn := SL.hid (fun (A B : HProp) (X : List HProp) (w : World) (a : Option Addr) (c1 : Nat) (hK : KidsAt (B :: X) (.slice a 0 c1) []) (h : Ent (A :: B :: X) w) => show Calls Tryd.prog 13 #[.agg #[.bool false, .string ⟨#[]⟩, .slice a 0 c1]] w (Ret fun v w' => ∃ a' c' m, v = .slice a' 0 c' ∧ Ent (A :: B :: rowEn a' c' [] :: (m ++ X)) w') from by
      refine (Entries_any (t := .zero) (kv := .slice a 0 c1) zero_wf (by decide) (hK.suf (List.suffix_cons _ _)) (by rw [zero_ent]; decide) h).mono ?_
      rintro e w' ⟨v, rfl, a', c', m, h, hE⟩
      exact ⟨_, rfl, a', c', m, h, Ent.swap (a := rowEn a' c' [] :: m) (b := [A, B]) hE⟩)
    clear hgr h hne hz hbd hle hk
    generalize (buildT es).1 = er at *
    go_enter Tryd.func25, Tryd.ntmps25
    go_wp2_with (first
      | go_skip
      | ((with_reducible (show Go.wpList _ _ _ (Go.Oper.mk _ (.alloc _) _ _ _ _ :: _) _ _)); clear Tok; ((with_reducible (show Go.wpList _ _ _ (Go.Oper.mk _ (.alloc _) _ _ _ _ :: _) _ _)); refine wpl_alloc hE rfl rfl (by simp [go_sem]; rfl) ?_; clear hE; intro b2 w hE; simp only [Act.eval, Act.put, List.setIfInBounds_toArray, List.set_cons_zero, List.set_cons_succ, getD_lit, List.getD_cons_succ, List.getD_cons_zero, Value.cells] at hE); replace hE := anyN_of hE)
      | ((with_reducible (show Go.wpList _ _ _ (Go.Oper.mk _ (.alloc _) _ _ _ _ :: _) _ _)); refine wpl_alloc hE rfl rfl (by simp [go_sem]; rfl) ?_; clear hE; intro b5 w hE; simp only [Act.eval, Act.put, List.setIfInBounds_toArray, List.set_cons_zero, List.set_cons_succ, getD_lit, List.getD_cons_succ, List.getD_cons_zero, Value.cells] at hE)
      | (go_at_call 8; refine (HGr.out _ _ (List.suffix_cons _ _) hE).mono ?_; clear hE; rintro e w2 ⟨v, rfl, rfl, hE⟩)
      | (go_at_call 10; refine (HBu.out _ _ hE).mono ?_; clear hE; rintro e w3 ⟨v, rfl, m, a, c1, rfl, hE, hKA⟩)
      | ((with_reducible (show Go.wpList _ _ _ (Go.Oper.mk _ (.store 28 _ _) _ _ _ _ :: _) _ _)); (first | (refine wpl_storeW hE 0 rfl rfl rfl (xs := [.bool false, .string ⟨#[]⟩, .slice a 0 c1]) rfl rfl Tryd.sizeOf28 rfl (by simp [Value.oneCell']) rfl ?_) | (refine wpl_storeW hE 1 rfl rfl rfl (xs := [.bool false, .string ⟨#[]⟩, .slice a 0 c1]) rfl rfl Tryd.sizeOf28 rfl (by simp [Value.oneCell']) rfl ?_) | (refine wpl_storeW hE 2 rfl rfl rfl (xs := [.bool false, .string ⟨#[]⟩, .slice a 0 c1]) rfl rfl Tryd.sizeOf28 rfl (by simp [Value.oneCell']) rfl ?_) | (refine wpl_storeW hE 3 rfl rfl rfl (xs := [.bool false, .string ⟨#[]⟩, .slice a 0 c1]) rfl rfl Tryd.sizeOf28 rfl (by simp [Value.oneCell']) rfl ?_) | (refine wpl_storeW hE 4 rfl rfl rfl (xs := [.bool false, .string ⟨#[]⟩, .slice a 0 c1]) rfl rfl Tryd.sizeOf28 rfl (by simp [Value.oneCell']) rfl ?_) | (refine wpl_storeW hE 5 rfl rfl rfl (xs := [.bool false, .string ⟨#[]⟩, .slice a 0 c1]) rfl rfl Tryd.sizeOf28 rfl (by simp [Value.oneCell']) rfl ?_) | (refine wpl_storeW hE 6 rfl rfl rfl (xs := [.bool false, .string ⟨#[]⟩, .slice a 0 c1]) rfl rfl Tryd.sizeOf28 rfl (by simp [Value.oneCell']) rfl ?_) | (refine wpl_storeW hE 7 rfl rfl rfl (xs := [.bool false, .string ⟨#[]⟩, .slice a 0 c1]) rfl rfl Tryd.sizeOf28 rfl (by simp [Value.oneCell']) rfl ?_)); clear hE; intro w hE; simp only [List.set_cons_zero, List.set_cons_succ] at hE))
    replace HEn := SL.hid (fun (w : World) (h : Ent (pt b5 (.cells #[.bool false, .string ⟨#[]⟩, .slice a 0 c1] 28) :: anyN b2 :: (m ++ l)) w) => HEn.out _ _ _ w a c1 hKA h)
    refine wp_region_held_drew (S := (fun w' => ((Instr.loadAt 28 (.pointer (some ⟨b5, 0, none⟩))).run Tryd.prog w' = .ok (.agg [.bool false, .string ⟨#[]⟩, .slice a 0 c1].toArray) w'))) (by kernel_rfl) (atWm hE.drew (by repeat (first | exact List.Mem.head _ | refine List.Mem.tail _ ?_)) Tryd.isAgg28 Tryd.sizeOf28 rfl) (fun hS => ?_)
    refine takeW 0 ⟨some 15, .load 28 (.tmp 5), 28, "law.go:43", #[], none⟩ ?_ (.inl ⟨by rfl, ?_⟩) hS ?_
    rotate_left
    · (intro w hSw; (try dsimp only at hSw); go_simp; (try with_reducible rfl))
    try simp only [Act.put, sb, s0, sz]
    refine takeW 1 ⟨some 16, .load 28 (.tmp 5), 28, "law.go:43", #[], none⟩ ?_ (.inl ⟨by rfl, ?_⟩) hS ?_
    rotate_left
    · (intro w hSw; (try dsimp only at hSw); go_simp; (try with_reducible rfl))
    try simp only [Act.put, sb, s0, sz]
    refine takeW 3 ⟨some 18, .move (.tmp 6), 29, "law.go:43", #[{ on := 6, ground := Go.Ground.gcOnly Go.Departure.lateStores }], none⟩ ?_ (.inl ⟨by rfl, ?_⟩) hS ?_
    rotate_left
    · (intro w hSw; (try dsimp only at hSw); go_simp; (try with_reducible rfl))
    try simp only [Act.put, sb, s0, sz]
    refine takeW 4 ⟨some 19, .binOp .eql 29 (.tmp 18) (.const (.int .i64 0)) 29, 4, "law.go:43", #[⟨3, .data⟩, { on := 6, ground := Go.Ground.gcOnly Go.Departure.lateStores }], none⟩ ?_ (.inl ⟨by rfl, ?_⟩) hS ?_
    rotate_left
    · (intro w hSw; (try dsimp only at hSw); go_simp; (try with_reducible rfl))
    try simp only [Act.put, sb, s0, sz]
    refine wpAnyH_ready (rs := [2]) (by kernel_rfl) (by simp) ?_
    refine (AllReadyH.cons (o := { dst := some 17, op := Go.Op.call { callee := Go.Callee.value (Go.Operand.func 13), args := #[Go.Operand.tmp 16], argTypes := #[28] }, type := 22, pos := "law.go:43", after := #[{ on := 1, ground := Go.Ground.data }], guard := none }) rfl (fun K hK => ?_) AllReadyH.nil)
    (go_simp; refine (HEn.out _ hE.drew).mono ?_; rintro e w4 ⟨v, rfl, a4, c4, m4, rfl, hR⟩)
    refine hK.out _ _ (atWm hR (by repeat (first | exact List.Mem.head _ | refine List.Mem.tail _ ?_)) Tryd.isAgg28 Tryd.sizeOf28 rfl) (fun hS => ?_)
    clear hK K
    try simp only [Act.put, sb, s0, sz]
    refine wpAnyH_ready (rs := [5]) (by kernel_rfl) (by simp) ?_
    refine (AllReadyH.cons (o := { dst := none, op := Go.Op.store 28 (Go.Operand.tmp 2) (Go.Operand.tmp 15), type := 0, pos := "law.go:43", after := #[{ on := 0, ground := Go.Ground.data }, { on := 2, ground := Go.Ground.chain }, { on := 0, ground := Go.Ground.phase }, { on := 1, ground := Go.Ground.textOnly Go.Departure.lateStores }, { on := 2, ground := Go.Ground.textOnly Go.Departure.lateStoresUnsure }, { on := 3, ground := Go.Ground.textOnly Go.Departure.lateStores }, { on := 4, ground := Go.Ground.textOnly Go.Departure.lateStores }], guard := none }) rfl (fun K hK => ?_) AllReadyH.nil)
    ((first | obtain ⟨⟨z0, z1, z2⟩, hU⟩ := (hR.front 1 rfl).unpack | obtain ⟨⟨z0, z1, z2⟩, hU⟩ := (hE.drew.front 1 rfl).unpack); refine step_storeW hU 0 rfl (by rfl) (by rfl) (by rfl) (xs := [.bool false, .string ⟨#[]⟩, .slice a 0 c1]) (by rfl) Tryd.sizeOf28 rfl (by simp [Value.oneCell']) rfl ?_; intro w7 hEs; simp only [List.set_cons_zero, List.set_cons_succ, List.cons_append, List.nil_append] at hEs)
    refine hK.out _ _ (atWm hEs (by repeat (first | exact List.Mem.head _ | refine List.Mem.tail _ ?_)) Tryd.isAgg28 Tryd.sizeOf28 rfl) (fun hS => ?_)
    clear hK K
    try simp only [Act.put, sb, s0, sz]
    refine takeW 6 ⟨some 3, .assign (.tmp 17), 22, "law.go:43", #[⟨2, .data⟩, ⟨5, .chain⟩, ⟨0, .phase⟩, ⟨1, .phase⟩, ⟨2, .phase⟩, { on := 3, ground := Go.Ground.textOnly Go.Departure.lateStores }, { on := 4, ground := Go.Ground.textOnly Go.Departure.lateStores }, ⟨5, .phase⟩], none⟩ ?_ (.inl ⟨by rfl, ?_⟩) hS ?_
    rotate_left
    · (intro w hSw; (try dsimp only at hSw); go_simp; (try with_reducible rfl))
    try simp only [Act.put, sb, s0, sz]
    refine takeW 7 ⟨some 4, .assign (.tmp 19), 4, "law.go:43", #[⟨4, .data⟩, ⟨6, .chain⟩, ⟨0, .phase⟩, ⟨1, .phase⟩, ⟨2, .phase⟩, ⟨3, .phase⟩, ⟨4, .phase⟩, ⟨5, .phase⟩, ⟨6, .phase⟩], none⟩ ?_ (.inl ⟨by rfl, ?_⟩) hS ?_
    rotate_left
    · (intro w hSw; (try dsimp only at hSw); go_simp; (try with_reducible rfl))
    try simp only [Act.put, sb, s0, sz]
    refine wpAnyH_done (by kernel_rfl) ?_ _
    all_goals
      clear hS
      go_wp2
      refine bodyPost_ret (results_c3 rfl hEs 0 rfl rfl Tryd.isAgg28 Tryd.sizeOf28 rfl rfl rfl) rfl ?_
      exact ⟨_, rfl, m, a, c1, a4, c4, rfl, hEs.tail.tail.tail.drop⟩
set_option maxRecDepth 100000 in
set_option maxHeartbeats 4000000 in
attribute [-go_sem] Instr.loadAt in
theorem Tree_good {es : List En} {t : Tr} (h : treeP es = some t) {ao : Option Addr} {c : Nat} {l : List HProp} {w : World} (hk : Knows l (reads (.slice ao es.length c) es.length (es.flatMap enC))) (hE : Ent l w) :
    Calls Tryd.prog 25 #[.slice ao es.length c] w (Ret (TgPost t l)) := by
  have HGr := SL.hid (fun (L : List HProp) (w : World) (hs : l <:+ L) (h : Ent L w) => show Calls Tryd.prog 8 #[.slice ao es.length c] w (Ret fun v w' => v = .bool (great es) ∧ Ent L w') from Great_any (hk.suf hs) h)
  have Tok := SL.hid True.intro
  have hgr : great es = false := by
    cases hg : great es with
    | false => rfl
    | true => rw [treeP, if_pos hg] at h; cases h
  rw [treeP, if_neg (by rw [hgr]; simp)] at h
  obtain ⟨hle, hbd⟩ := great_not.1 hgr
  have h0 : (buildT es).1 = 0 := by
    by_cases h0 : (buildT es).1 = 0
    · exact h0
    · rw [if_neg h0] at h; cases h
  rw [if_pos h0] at h
  have ht : (buildT es).2 = t := Option.some.inj h
  have hG := ((build_same es).2 h0).1
  rw [((build_same es).2 h0).2, ht] at hG
  have hw := hG.2.1
  have hal := all_perm hG
  rw [hgr] at HGr
  have HBu := SL.hid (fun (b2 : Nat) (w : World) (h : Ent (anyN b2 :: l) w) => show Calls Tryd.prog 10 #[.slice ao es.length c] w (Ret fun v w' => ∃ m a c1, v = .tuple #[.agg #[.bool t.dir, .string ⟨t.data.toArray⟩, .slice a t.kids.length c1], .int .i64 0] ∧ Ent (anyN b2 :: (m ++ l)) w' ∧ KidsAt (anyN b2 :: (m ++ l)) (.slice a t.kids.length c1) t.kids) from by
    refine (Build_all (fun x hx => ⟨by have := (hbd x hx).1; omega, by have := (hbd x hx).2; omega⟩) (hk.suf (List.suffix_cons _ _)) h).mono ?_
    rintro e w' ⟨v, rfl, m, kv, h, hE, hK⟩
    rw [ht] at h hK
    rw [h0] at h
    obtain ⟨a, c', rfl⟩ := hK.slice
    exact ⟨_, rfl, m, a, c', h, Ent.swap (a := m) (b := [anyN b2]) hE, hK.mono (fun p hp W hW => hp W (Ent.swap (a := [anyN b2]) (b := m) hW))⟩)
  have HEn := SL.hid (fun (A B : HProp) (X : List HProp) (w : World) (a : Option Addr) (c1 : Nat) (hK : KidsAt (B :: X) (.slice a t.kids.length c1) t.kids) (h : Ent (A :: B :: X) w) => show Calls Tryd.prog 13 #[.agg #[.bool t.dir, .string ⟨t.data.toArray⟩, .slice a t.kids.length c1]] w (Ret fun v w' => ∃ a' c' m, v = .slice a' (entT 6 [] t).length c' ∧ Ent (A :: B :: rowEn a' c' (entT 6 [] t) :: (m ++ X)) w') from by
    refine (Entries_any (t := t) hw (by decide) (hK.suf (List.suffix_cons _ _)) (by rw [hal.length_eq]; omega) h).mono ?_
    rintro e w' ⟨v, rfl, a', c', m, h, hE⟩
    exact ⟨_, rfl, a', c', m, h, Ent.swap (a := rowEn a' c' (entT 6 [] t) :: m) (b := [A, B]) hE⟩)
  clear hgr h h0 ht hG hw hal hbd hle hk
  obtain ⟨all, ha⟩ : ∃ all, entT 6 [] t = all := ⟨_, rfl⟩
  rw [ha] at HEn
  have Ha := SL.hid ha
  clear ha
  go_enter Tryd.func25, Tryd.ntmps25
  go_wp2_with (first
    | go_skip
    | ((with_reducible (show Go.wpList _ _ _ (Go.Oper.mk _ (.alloc _) _ _ _ _ :: _) _ _)); clear Tok; ((with_reducible (show Go.wpList _ _ _ (Go.Oper.mk _ (.alloc _) _ _ _ _ :: _) _ _)); refine wpl_alloc hE rfl rfl (by simp [go_sem]; rfl) ?_; clear hE; intro b2 w hE; simp only [Act.eval, Act.put, List.setIfInBounds_toArray, List.set_cons_zero, List.set_cons_succ, getD_lit, List.getD_cons_succ, List.getD_cons_zero, Value.cells] at hE); replace hE := anyN_of hE)
    | ((with_reducible (show Go.wpList _ _ _ (Go.Oper.mk _ (.alloc _) _ _ _ _ :: _) _ _)); refine wpl_alloc hE rfl rfl (by simp [go_sem]; rfl) ?_; clear hE; intro b5 w hE; simp only [Act.eval, Act.put, List.setIfInBounds_toArray, List.set_cons_zero, List.set_cons_succ, getD_lit, List.getD_cons_succ, List.getD_cons_zero, Value.cells] at hE)
    | (go_at_call 8; refine (HGr.out _ _ (List.suffix_cons _ _) hE).mono ?_; clear hE; rintro e w2 ⟨v, rfl, rfl, hE⟩)
    | (go_at_call 10; refine (HBu.out _ _ hE).mono ?_; clear hE; rintro e w3 ⟨v, rfl, m, a, c1, rfl, hE, hKA⟩)
    | ((with_reducible (show Go.wpList _ _ _ (Go.Oper.mk _ (.store 28 _ _) _ _ _ _ :: _) _ _)); (first | (refine wpl_storeW hE 0 rfl rfl rfl (xs := [.bool t.dir, .string ⟨t.data.toArray⟩, .slice a t.kids.length c1]) rfl rfl Tryd.sizeOf28 rfl (by simp [Value.oneCell']) rfl ?_) | (refine wpl_storeW hE 1 rfl rfl rfl (xs := [.bool t.dir, .string ⟨t.data.toArray⟩, .slice a t.kids.length c1]) rfl rfl Tryd.sizeOf28 rfl (by simp [Value.oneCell']) rfl ?_) | (refine wpl_storeW hE 2 rfl rfl rfl (xs := [.bool t.dir, .string ⟨t.data.toArray⟩, .slice a t.kids.length c1]) rfl rfl Tryd.sizeOf28 rfl (by simp [Value.oneCell']) rfl ?_) | (refine wpl_storeW hE 3 rfl rfl rfl (xs := [.bool t.dir, .string ⟨t.data.toArray⟩, .slice a t.kids.length c1]) rfl rfl Tryd.sizeOf28 rfl (by simp [Value.oneCell']) rfl ?_) | (refine wpl_storeW hE 4 rfl rfl rfl (xs := [.bool t.dir, .string ⟨t.data.toArray⟩, .slice a t.kids.length c1]) rfl rfl Tryd.sizeOf28 rfl (by simp [Value.oneCell']) rfl ?_) | (refine wpl_storeW hE 5 rfl rfl rfl (xs := [.bool t.dir, .string ⟨t.data.toArray⟩, .slice a t.kids.length c1]) rfl rfl Tryd.sizeOf28 rfl (by simp [Value.oneCell']) rfl ?_) | (refine wpl_storeW hE 6 rfl rfl rfl (xs := [.bool t.dir, .string ⟨t.data.toArray⟩, .slice a t.kids.length c1]) rfl rfl Tryd.sizeOf28 rfl (by simp [Value.oneCell']) rfl ?_) | (refine wpl_storeW hE 7 rfl rfl rfl (xs := [.bool t.dir, .string ⟨t.data.toArray⟩, .slice a t.kids.length c1]) rfl rfl Tryd.sizeOf28 rfl (by simp [Value.oneCell']) rfl ?_)); clear hE; intro w hE; simp only [List.set_cons_zero, List.set_cons_succ] at hE))
  replace HEn := SL.hid (fun (w : World) (h : Ent (pt b5 (.cells #[.bool t.dir, .string ⟨t.data.toArray⟩, .slice a t.kids.length c1] 28) :: anyN b2 :: (m ++ l)) w) => HEn.out _ _ _ w a c1 hKA h)
  refine wp_region_held_drew (S := (fun w' => ((Instr.loadAt 28 (.pointer (some ⟨b5, 0, none⟩))).run Tryd.prog w' = .ok (.agg [.bool t.dir, .string ⟨t.data.toArray⟩, .slice a t.kids.length c1].toArray) w'))) (by kernel_rfl) (atWm hE.drew (by repeat (first | exact List.Mem.head _ | refine List.Mem.tail _ ?_)) Tryd.isAgg28 Tryd.sizeOf28 rfl) (fun hS => ?_)
  refine takeW 0 ⟨some 15, .load 28 (.tmp 5), 28, "law.go:43", #[], none⟩ ?_ (.inl ⟨by rfl, ?_⟩) hS ?_
  rotate_left
  · (intro w hSw; (try dsimp only at hSw); go_simp; (try with_reducible rfl))
  try simp only [Act.put, sb, s0, sz]
  refine takeW 1 ⟨some 16, .load 28 (.tmp 5), 28, "law.go:43", #[], none⟩ ?_ (.inl ⟨by rfl, ?_⟩) hS ?_
  rotate_left
  · (intro w hSw; (try dsimp only at hSw); go_simp; (try with_reducible rfl))
  try simp only [Act.put, sb, s0, sz]
  refine takeW 3 ⟨some 18, .move (.tmp 6), 29, "law.go:43", #[{ on := 6, ground := Go.Ground.gcOnly Go.Departure.lateStores }], none⟩ ?_ (.inl ⟨by rfl, ?_⟩) hS ?_
  rotate_left
  · (intro w hSw; (try dsimp only at hSw); go_simp; (try with_reducible rfl))
  try simp only [Act.put, sb, s0, sz]
  refine takeW 4 ⟨some 19, .binOp .eql 29 (.tmp 18) (.const (.int .i64 0)) 29, 4, "law.go:43", #[⟨3, .data⟩, { on := 6, ground := Go.Ground.gcOnly Go.Departure.lateStores }], none⟩ ?_ (.inl ⟨by rfl, ?_⟩) hS ?_
  rotate_left
  · (intro w hSw; (try dsimp only at hSw); go_simp; (try with_reducible rfl))
  try simp only [Act.put, sb, s0, sz]
  refine wpAnyH_ready (rs := [2]) (by kernel_rfl) (by simp) ?_
  refine (AllReadyH.cons (o := { dst := some 17, op := Go.Op.call { callee := Go.Callee.value (Go.Operand.func 13), args := #[Go.Operand.tmp 16], argTypes := #[28] }, type := 22, pos := "law.go:43", after := #[{ on := 1, ground := Go.Ground.data }], guard := none }) rfl (fun K hK => ?_) AllReadyH.nil)
  (go_simp; refine (HEn.out _ hE.drew).mono ?_; rintro e w4 ⟨v, rfl, a4, c4, m4, rfl, hR⟩)
  refine hK.out _ _ (atWm hR (by repeat (first | exact List.Mem.head _ | refine List.Mem.tail _ ?_)) Tryd.isAgg28 Tryd.sizeOf28 rfl) (fun hS => ?_)
  clear hK K
  try simp only [Act.put, sb, s0, sz]
  refine wpAnyH_ready (rs := [5]) (by kernel_rfl) (by simp) ?_
  refine (AllReadyH.cons (o := { dst := none, op := Go.Op.store 28 (Go.Operand.tmp 2) (Go.Operand.tmp 15), type := 0, pos := "law.go:43", after := #[{ on := 0, ground := Go.Ground.data }, { on := 2, ground := Go.Ground.chain }, { on := 0, ground := Go.Ground.phase }, { on := 1, ground := Go.Ground.textOnly Go.Departure.lateStores }, { on := 2, ground := Go.Ground.textOnly Go.Departure.lateStoresUnsure }, { on := 3, ground := Go.Ground.textOnly Go.Departure.lateStores }, { on := 4, ground := Go.Ground.textOnly Go.Departure.lateStores }], guard := none }) rfl (fun K hK => ?_) AllReadyH.nil)
  ((first | obtain ⟨⟨z0, z1, z2⟩, hU⟩ := (hR.front 1 rfl).unpack | obtain ⟨⟨z0, z1, z2⟩, hU⟩ := (hE.drew.front 1 rfl).unpack); refine step_storeW hU 0 rfl (by rfl) (by rfl) (by rfl) (xs := [.bool t.dir, .string ⟨t.data.toArray⟩, .slice a t.kids.length c1]) (by rfl) Tryd.sizeOf28 rfl (by simp [Value.oneCell']) rfl ?_; intro w7 hEs; simp only [List.set_cons_zero, List.set_cons_succ, List.cons_append, List.nil_append] at hEs)
  refine hK.out _ _ (atWm hEs (by repeat (first | exact List.Mem.head _ | refine List.Mem.tail _ ?_)) Tryd.isAgg28 Tryd.sizeOf28 rfl) (fun hS => ?_)
  clear hK K
  try simp only [Act.put, sb, s0, sz]
  refine takeW 6 ⟨some 3, .assign (.tmp 17), 22, "law.go:43", #[⟨2, .data⟩, ⟨5, .chain⟩, ⟨0, .phase⟩, ⟨1, .phase⟩, ⟨2, .phase⟩, { on := 3, ground := Go.Ground.textOnly Go.Departure.lateStores }, { on := 4, ground := Go.Ground.textOnly Go.Departure.lateStores }, ⟨5, .phase⟩], none⟩ ?_ (.inl ⟨by rfl, ?_⟩) hS ?_
  rotate_left
  · (intro w hSw; (try dsimp only at hSw); go_simp; (try with_reducible rfl))
  try simp only [Act.put, sb, s0, sz]
  refine takeW 7 ⟨some 4, .assign (.tmp 19), 4, "law.go:43", #[⟨4, .data⟩, ⟨6, .chain⟩, ⟨0, .phase⟩, ⟨1, .phase⟩, ⟨2, .phase⟩, ⟨3, .phase⟩, ⟨4, .phase⟩, ⟨5, .phase⟩, ⟨6, .phase⟩], none⟩ ?_ (.inl ⟨by rfl, ?_⟩) hS ?_
  rotate_left
  · (intro w hSw; (try dsimp only at hSw); go_simp; (try with_reducible rfl))
  try simp only [Act.put, sb, s0, sz]
  refine wpAnyH_done (by kernel_rfl) ?_ _
  all_goals
    clear hS
    go_wp2
    refine bodyPost_ret (results_c3 rfl hEs 0 rfl rfl Tryd.isAgg28 Tryd.sizeOf28 rfl rfl rfl) rfl ?_
    refine ⟨_, rfl, anyN b2 :: pt b5 (.cells #[.bool t.dir, .string ⟨t.data.toArray⟩, .slice a t.kids.length c1] 28) :: rowEn a4 c4 all :: (m4 ++ m), a, c1, a4, c4, by rw [Ha.out]; rfl, ?_, ?_, ?_⟩
    · simp only [List.append_assoc, List.cons_append]
      exact anyN_of hEs
    · refine hKA.mono (fun p hp W hW => hp W ?_)
      simp only [List.append_assoc, List.cons_append] at hW
      exact (Ent.swap (a := [anyN b2]) (b := m4) ((((hW.front 1 rfl).tail).front 1 rfl).tail)).drop
    · rw [Ha.out]
      exact fun W hW => reads_row hW 2 rfl
end Go.Proofs.YtjmllpgmbaoebaaDoor
namespace Go.Proofs.YtjmllpgmbaoebaaDoor
open Go.RowKit Go.SL

theorem treeP_some {es : List En} {t : Tr} (h : treeP es = some t) : Good t es ∧ es.length ≤ 64 ∧ ∀ x ∈ es, x.path.length ≤ 200 ∧ x.data.length ≤ 9000 := by
  have hgr : great es = false := by
    cases hg : great es with
    | false => rfl
    | true => rw [treeP, if_pos hg] at h; cases h
  rw [treeP, if_neg (by rw [hgr]; simp)] at h
  obtain ⟨hle, hbd⟩ := great_not.1 hgr
  have h0 : (buildT es).1 = 0 := by
    by_cases h0 : (buildT es).1 = 0
    · exact h0
    · rw [if_neg h0] at h; cases h
  rw [if_pos h0] at h
  have ht : (buildT es).2 = t := Option.some.inj h
  have hG := ((build_same es).2 h0).1
  rw [((build_same es).2 h0).2, ht] at hG
  refine ⟨hG, ?_, hbd⟩
  rcases Nat.lt_or_ge 64 es.length with h | h
  · rw [buildT, if_pos h] at h0; cases h0
  · exact h
theorem lines_small {es : List En} (h : ∀ x ∈ es, x.path.length ≤ 200 ∧ x.data.length ≤ 9000) : (linesP es).length ≤ es.length * 40000 := by
  induction es with
  | nil => simp [linesP]
  | cons x es ih =>
    have h1 := h x List.mem_cons_self
    have h2 := ih fun y hy => h y (List.mem_cons_of_mem _ hy)
    have h3 := lineP_len x
    have e : linesP (x :: es) = (lineP x ++ [10]) ++ linesP es := rfl
    simp only [e, List.length_append, List.length_cons, List.length_nil]
    omega
theorem put_small {es : List En} (hn : es.length ≤ 64) (h : ∀ x ∈ es, x.path.length ≤ 200 ∧ x.data.length ≤ 9000) (hc : ∀ x ∈ es, Clean x) : (linesP es).length ≤ 10000000 ∧ ∀ x ∈ cutsN (trimP (linesP es)), x.length ≤ 1000000 := by
  refine ⟨by have := lines_small h; omega, ?_⟩
  cases es with
  | nil => intro x hx; have : x ∈ [([] : List UInt8)] := hx; simp at this; subst this; simp
  | cons y r =>
    have ht : trimP (linesP (y :: r)) = bodyP y r := by
      have hb := lines_body y r
      have hs : Lib.hasSuffix (linesP (y :: r)) [10] = true := by
        rw [Lib.hasSuffix, hb]
        exact List.isSuffixOf_iff_suffix.2 (List.suffix_append _ _)
      rw [trimP, Lib.trimSuffix, if_pos hs, hb]
      simp
    rw [ht, cuts_body y r hc]
    intro x hx
    obtain ⟨z, hz, rfl⟩ := List.mem_map.1 hx
    have h1 := h z hz
    have h2 := lineP_len z
    omega
theorem parse_small {s : List UInt8} {es : List En} (h : parse s = some es) : ∀ x ∈ es, x.path.length ≤ s.length ∧ x.data.length ≤ s.length := by
  rw [parse] at h
  split at h
  · cases h; intro x hx; cases hx
  · split at h
    · cases h
      intro x hx
      obtain ⟨y, hy, rfl⟩ := List.mem_map.1 hx
      have h1 := entL_len y
      have h2 := (cutsN_len (trimP s)).2 y hy
      have h3 : (trimP s).length ≤ s.length := by
        unfold trimP Lib.trimSuffix
        split
        · rw [List.length_take]; omega
        · omega
      omega
    · cases h
theorem takeP_bad {s : List UInt8} (h : (takeP s).1 ≠ 0) : (takeP s).2 = .zero := by
  rw [takeP] at h ⊢
  split
  · rfl
  · next es hp =>
    rw [hp] at h
    simp only at h
    split
    · rfl
    · next h1 =>
      rw [if_neg h1] at h
      split
      · next h2 => rw [if_pos h2] at h; exact absurd rfl h
      · rfl
theorem takeP_good {s : List UInt8} (h : (takeP s).1 = 0) : ∃ es, Good (takeP s).2 es ∧ es.length ≤ 64 ∧ (∀ x ∈ es, x.path.length ≤ s.length ∧ x.data.length ≤ s.length) ∧ linesP (entT 6 [] (takeP s).2) = s := by
  rw [takeP] at h ⊢
  split
  · next hp => rw [hp] at h; cases h
  · next es hp =>
    rw [hp] at h
    simp only at h
    by_cases h1 : (buildT es).1 ≠ 0
    · rw [if_pos h1] at h; exact absurd h h1
    · have h0 : (buildT es).1 = 0 := by simpa using h1
      rw [if_neg h1] at h ⊢
      split
      · next h2 =>
        have hG := ((build_same es).2 h0).1
        rw [((build_same es).2 h0).2] at hG
        refine ⟨es, hG, ?_, parse_small hp, h2⟩
        rcases Nat.lt_or_ge 64 es.length with h | h
        · rw [buildT, if_pos h] at h0; cases h0
        · exact h
      · next h2 => rw [if_neg h2] at h; cases h
end Go.Proofs.YtjmllpgmbaoebaaDoor
