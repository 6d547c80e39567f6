/-
  The document's At. Printed by gen_ta9.py.
-/
import Derived.Test.YtjmllpgmbaoebaaDoorManQF6
import Derived.WalkMore
namespace Go.Proofs.YtjmllpgmbaoebaaDoor
open Go.RowKit Go.SL

set_option maxRecDepth 100000 in
set_option maxHeartbeats 16000000 in
attribute [-go_sem] Instr.loadAt in
theorem rAt_any {t : Tr} {L : List En} (hG : Good t L) (hL : L.length ≤ 1000) (hb : ∀ x ∈ L, x.path.length ≤ 1000000) {q : List (List UInt8)} (hq : q.length ≤ 1000) (hx : ∀ x ∈ q, x.length ≤ 600) {an : Option Addr} {cn : Nat} (hqc : q.length ≤ cn) {ao : Option Addr} {c : Nat} {l : List HProp} {w : World}
    (hn : Knows l (reads (.slice an q.length cn) q.length (q.map strv))) (hk : Knows l (reads (.slice ao L.length c) L.length (L.flatMap enC))) (hE : Ent l w) :
    Calls Tryd.prog 16 #[.agg #[.slice ao L.length c], .slice an q.length cn] w (Ret (rAtPost q t l)) := by
  have Tok := SL.hid True.intro
  have Hd := SL.hid hG.2.2
  go_enter Tryd.func16, Tryd.ntmps16
  go_wp2_with (first
    | go_skip
    | ((with_reducible (show Go.wpList _ _ _ (Go.Oper.mk _ (.box _ _) _ _ _ _ :: _) _ _)); refine wpl_box hE rfl rfl rfl ?_; clear hE; intro b2 w hE; simp only [Act.eval, Act.put, List.setIfInBounds_toArray, List.set_cons_zero, List.set_cons_succ, getD_lit, List.getD_cons_succ, List.getD_cons_zero, Value.cells] at hE)
    | ((with_reducible (show Go.wpList _ _ _ (Go.Oper.mk _ (.alloc _) _ _ _ _ :: _) _ _)); clear Tok; ((with_reducible (show Go.wpList _ _ _ (Go.Oper.mk _ (.alloc _) _ _ _ _ :: _) _ _)); refine wpl_alloc hE rfl rfl (by simp [go_sem]; rfl) ?_; clear hE; intro b4 w hE; simp only [Act.eval, Act.put, List.setIfInBounds_toArray, List.set_cons_zero, List.set_cons_succ, getD_lit, List.getD_cons_succ, List.getD_cons_zero, Value.cells] at hE))
    | ((with_reducible (show Go.wpList _ _ _ (Go.Oper.mk _ (.alloc _) _ _ _ _ :: _) _ _)); refine wpl_alloc hE rfl rfl (by simp [go_sem]; rfl) ?_; clear hE; intro b6 w hE; simp only [Act.eval, Act.put, List.setIfInBounds_toArray, List.set_cons_zero, List.set_cons_succ, getD_lit, List.getD_cons_succ, List.getD_cons_zero, Value.cells] at hE)
    | ((with_reducible (show Go.wpList _ _ _ (Go.Oper.mk _ (.store 41 _ _) _ _ _ _ :: _) _ _)); refine wpl_storeW hE 0 rfl rfl rfl (xs := [.string ⟨#[]⟩, .bool true, .string ⟨#[]⟩]) rfl rfl Tryd.sizeOf41 rfl (by simp [Value.oneCell']) rfl ?_; clear hE; intro w8 hE; simp only [List.set_cons_zero] at hE))
  go_loopw [7] (fun i wr => rAtRel q t b6 (pt b4 (.cells #[.string ⟨#[]⟩, .bool false, .string ⟨#[]⟩] 41) :: pt b2 (.cells #[.slice ao L.length c] 33) :: l) i wr) (fun i _ => q.length - (intOf i).toNat)
  case atStart => exact ⟨0, t, Nat.zero_le _, rfl, rfl, rfl, by rw [Hd.out.1, Hd.out.2]; exact hE⟩
  case round =>
    clear hE
    obtain ⟨k, p, hkn, rfl, hg, hB, hE⟩ := hrel
    obtain ⟨px, hpx⟩ : ∃ x, joinP (q.take k) = x := ⟨_, rfl⟩
    rw [hpx] at hE
    by_cases hlt : k < q.length
    · have hdk : q.drop k = q[k] :: q.drop (k + 1) := List.drop_eq_getElem_cons hlt
      rw [hdk, atT] at hB
      have htk := List.take_succ_eq_append_getElem hlt
      cases hpd : p.dir with
      | false =>
        have HT := SL.hid (show atT 11 10 q t = (11, .zero) from by rw [hB, hpd]; rfl)
        rw [hpd] at hE
        generalize p.data = pb at *
        clear hB hpd hg hpx hdk htk
        go_wp2_with (first
          | go_skip
          | ((with_reducible (show Go.wpList _ _ _ (Go.Oper.mk _ (.load _ _) _ _ _ _ :: _) _ _)); (first | (refine wpl_load1 hE 0 rfl rfl rfl rfl (by simp [go_sem]) rfl ?_) | (refine wpl_load1 hE 1 rfl rfl rfl rfl (by simp [go_sem]) rfl ?_) | (refine wpl_load1 hE 2 rfl rfl rfl rfl (by simp [go_sem]) rfl ?_) | (refine wpl_load1 hE 3 rfl rfl rfl rfl (by simp [go_sem]) rfl ?_) | (refine wpl_load1 hE 4 rfl rfl rfl rfl (by simp [go_sem]) rfl ?_) | (refine wpl_load1 hE 5 rfl rfl rfl rfl (by simp [go_sem]) rfl ?_) | (refine wpl_load1 hE 6 rfl rfl rfl rfl (by simp [go_sem]) rfl ?_) | (refine wpl_load1 hE 7 rfl rfl rfl rfl (by simp [go_sem]) rfl ?_)))
          | ((with_reducible (show Go.wpList _ _ _ (Go.Oper.mk _ (.store 41 _ _) _ _ _ _ :: _) _ _)); (first | (refine wpl_storeW hE 0 rfl rfl rfl (xs := [.string ⟨#[]⟩, .bool false, .string ⟨#[]⟩]) rfl rfl Tryd.sizeOf41 rfl (by simp [Value.oneCell']) rfl ?_) | (refine wpl_storeW hE 1 rfl rfl rfl (xs := [.string ⟨#[]⟩, .bool false, .string ⟨#[]⟩]) rfl rfl Tryd.sizeOf41 rfl (by simp [Value.oneCell']) rfl ?_) | (refine wpl_storeW hE 2 rfl rfl rfl (xs := [.string ⟨#[]⟩, .bool false, .string ⟨#[]⟩]) rfl rfl Tryd.sizeOf41 rfl (by simp [Value.oneCell']) rfl ?_) | (refine wpl_storeW hE 3 rfl rfl rfl (xs := [.string ⟨#[]⟩, .bool false, .string ⟨#[]⟩]) rfl rfl Tryd.sizeOf41 rfl (by simp [Value.oneCell']) rfl ?_) | (refine wpl_storeW hE 4 rfl rfl rfl (xs := [.string ⟨#[]⟩, .bool false, .string ⟨#[]⟩]) rfl rfl Tryd.sizeOf41 rfl (by simp [Value.oneCell']) rfl ?_) | (refine wpl_storeW hE 5 rfl rfl rfl (xs := [.string ⟨#[]⟩, .bool false, .string ⟨#[]⟩]) rfl rfl Tryd.sizeOf41 rfl (by simp [Value.oneCell']) rfl ?_) | (refine wpl_storeW hE 6 rfl rfl rfl (xs := [.string ⟨#[]⟩, .bool false, .string ⟨#[]⟩]) rfl rfl Tryd.sizeOf41 rfl (by simp [Value.oneCell']) rfl ?_) | (refine wpl_storeW hE 7 rfl rfl rfl (xs := [.string ⟨#[]⟩, .bool false, .string ⟨#[]⟩]) rfl rfl Tryd.sizeOf41 rfl (by simp [Value.oneCell']) rfl ?_)); clear hE; intro w hE; simp only [List.set_cons_zero, List.set_cons_succ] at hE))
        refine bodyPost_ret (results_cell2 rfl hE 1 rfl rfl Tryd.isAgg41 Tryd.sizeOf41 rfl rfl) rfl ?_
        exact ⟨_, rfl, [_, _, _], by rw [HT.out]; rfl, hE⟩
      | true =>
        have hB2 : atT 11 10 q t = (match p.kid? q[k] with | none => (10, .zero) | some k' => atT 11 10 (q.drop (k + 1)) k') := by rw [hB, hpd]; rfl
        have HG2 := SL.hid (fun (k' : Tr) (h : p.kid? q[k] = some k') => show Tr.get? (q.take (k + 1)) t = some k' from by rw [htk, get_snoc hg, h])
        have HF := SL.hid (fun (hnm : isName q[k] = true) (v : Value) (h : Found L (kidsI L (joinP (q.take k))) (joinP (q.take k ++ [q[k]])) true (kidsI L (joinP (q.take k))).length v) => found_kid hG hg hnm h)
        have HNo := SL.hid (show isName q[k] = false → p.kid? q[k] = none from fun h => by
          obtain ⟨e, he⟩ := wf_get hG.2.1 hg
          cases hkk : p.kid? q[k] with
          | none => rfl
          | some k' => rw [kid_name he hkk] at h; cases h)
        have HB2 := SL.hid hB2
        have HKi := SL.hid (fun (L2 : List HProp) (w : World) (hs : l <:+ L2) (h : Ent L2 w) => kids_any (by omega) hb (joinP (q.take k)) (hk.suf hs) h)
        have HKb := SL.hid (fun (j : Nat) (h : j < (kidsI L (joinP (q.take k))).length) => show (kidsI L (joinP (q.take k)))[j] < L.length from kidsI_lt (List.getElem_mem h))
        have hkil := kidsI_le L (joinP (q.take k))
        rw [← htk] at HF
        rw [hpd] at hE
        obtain ⟨bn, on, rfl, hz⟩ := reads_form (hn _ hE.tail.tail.tail) (by omega) (by rw [List.length_map]; omega)
        clear hz
        have Nn := SL.hid (show ∀ w, Ent l w → (Instr.loadAt 9 (.pointer (some ⟨bn, on + k, none⟩))).run Tryd.prog w = .ok (.string ⟨q[k].toArray⟩) w from fun w h => atCell (str_cells (hn _ h) hlt) (by simp [go_sem]))
        have HN1 := SL.hid (show ∀ w, Ent l w → reads (.slice (some ⟨bn, on, none⟩) (k + 1) cn) (k + 1) ((q.map strv).take ((k + 1) * 1)) w from fun w h => reads_first (hn _ h) (by omega))
        have HN2 := SL.hid (show ((q.map strv).take ((k + 1) * 1)).length = (k + 1) * 1 from by rw [List.length_take, List.length_map]; omega)
        have HN3 := SL.hid (show ∀ u ∈ (q.map strv).take ((k + 1) * 1), u.oneCell' = true from fun u hu => by
          obtain ⟨s, _, rfl⟩ := List.mem_map.1 (List.mem_of_mem_take hu)
          rfl)
        have HJ := SL.hid (show ∀ (a : Option Addr) (c' : Nat) (L2 : List HProp) (w : World), Ent (row 9 1 (.slice a (k + 1) c') (k + 1) ((q.map strv).take ((k + 1) * 1)) :: L2) w → Calls Tryd.prog 37 #[.slice a (k + 1) c'] w (Ret fun v w' => v = .string ⟨(joinP (q.take (k + 1))).toArray⟩ ∧ Ent (row 9 1 (.slice a (k + 1) c') (k + 1) ((q.map strv).take ((k + 1) * 1)) :: L2) w') from fun a c' L2 w h => by
          have e1 : (q.take (k + 1)).length = k + 1 := by rw [List.length_take]; omega
          have e2 : (q.map strv).take ((k + 1) * 1) = (q.take (k + 1)).map strv := by rw [Nat.mul_one, List.map_take]
          rw [e2] at h ⊢
          have h9 := rJoin_any (xs := q.take (k + 1)) (by omega) (fun x h => hx x (List.mem_of_mem_take h)) (ao := a) (c := c') (l := rowS a c' (q.take (k + 1)) :: L2) (w := w) (by simp only [rowS, e1]; exact h) (fun w h => reads_row h 0 rfl)
          simp only [rowS, e1] at h9
          exact h9)
        have hnl : q[k].length ≤ 600 := hx _ (List.getElem_mem hlt)
        have HNa := SL.hid (fun w => rName_any q[k] (by omega) w)
        obtain ⟨tgt, htgt⟩ : ∃ x, joinP (q.take (k + 1)) = x := ⟨_, rfl⟩
        have Htgt := SL.hid htgt
        rw [htgt] at HF HJ
        rw [hpx] at HF HKi HKb hkil
        clear hB hB2 hpd hg hpx hdk htk htgt hnl hb hx
        generalize kidsI L px = ki at *
        generalize p.data = pb at *
        generalize q[k] = nm at *
        generalize (q.map strv).take ((k + 1) * 1) = news at *
        go_wp2_with (first
          | go_skip
          | ((with_reducible (show Go.wpList _ _ _ (Go.Oper.mk _ (.load 33 _) _ _ _ _ :: _) _ _)); (first | (refine wpl_loadW hE 0 rfl rfl rfl rfl Tryd.isAgg33 Tryd.sizeOf33 rfl ?_) | (refine wpl_loadW hE 1 rfl rfl rfl rfl Tryd.isAgg33 Tryd.sizeOf33 rfl ?_) | (refine wpl_loadW hE 2 rfl rfl rfl rfl Tryd.isAgg33 Tryd.sizeOf33 rfl ?_) | (refine wpl_loadW hE 3 rfl rfl rfl rfl Tryd.isAgg33 Tryd.sizeOf33 rfl ?_) | (refine wpl_loadW hE 4 rfl rfl rfl rfl Tryd.isAgg33 Tryd.sizeOf33 rfl ?_) | (refine wpl_loadW hE 5 rfl rfl rfl rfl Tryd.isAgg33 Tryd.sizeOf33 rfl ?_) | (refine wpl_loadW hE 6 rfl rfl rfl rfl Tryd.isAgg33 Tryd.sizeOf33 rfl ?_) | (refine wpl_loadW hE 7 rfl rfl rfl rfl Tryd.isAgg33 Tryd.sizeOf33 rfl ?_)))
          | ((with_reducible (show Go.wpList _ _ _ (Go.Oper.mk _ (.load _ _) _ _ _ _ :: _) _ _)); (first | (refine wpl_load1 hE 0 rfl rfl rfl rfl (by simp [go_sem]) rfl ?_) | (refine wpl_load1 hE 1 rfl rfl rfl rfl (by simp [go_sem]) rfl ?_) | (refine wpl_load1 hE 2 rfl rfl rfl rfl (by simp [go_sem]) rfl ?_) | (refine wpl_load1 hE 3 rfl rfl rfl rfl (by simp [go_sem]) rfl ?_) | (refine wpl_load1 hE 4 rfl rfl rfl rfl (by simp [go_sem]) rfl ?_) | (refine wpl_load1 hE 5 rfl rfl rfl rfl (by simp [go_sem]) rfl ?_) | (refine wpl_load1 hE 6 rfl rfl rfl rfl (by simp [go_sem]) rfl ?_) | (refine wpl_load1 hE 7 rfl rfl rfl rfl (by simp [go_sem]) rfl ?_)))
          | (go_at_call 36; refine (HKi.out _ _ (by repeat (first | exact List.suffix_refl _ | refine List.IsSuffix.trans ?_ (List.suffix_cons _ _))) hE).mono ?_; clear hE; rintro e w3 ⟨v, rfl, ka, kc, rfl, hE⟩))
        have hmn : ((⟨nm.toArray⟩ : ByteArray) != ⟨#[]⟩) = !(nm == []) := by rw [bne, mkb]
        go_loopw [8, 10] (fun v i wr => FoRel L ki tgt (!(nm == [])) (rowN ka kc ki :: pt b6 (.cells #[.string ⟨px.toArray⟩, .bool true, .string ⟨pb.toArray⟩] 41) :: pt b4 (.cells #[.string ⟨#[]⟩, .bool false, .string ⟨#[]⟩] 41) :: pt b2 (.cells #[.slice ao L.length c] 33) :: l) v i wr) (fun _ i _ => ki.length - (intOf i).toNat)
        case atStart => exact ⟨0, Nat.zero_le _, rfl, Found.start, hE⟩
        case round =>
          clear hE
          obtain ⟨j, hjn, rfl, hfo, hE⟩ := hrel
          by_cases hj : j < ki.length
          · obtain ⟨gk, rfl, _, _⟩ := hE.rowIs 0 rfl (by omega)
            have hLk := HKb.out j hj
            obtain ⟨b, off, rfl, hz⟩ := en_at (hk _ hE.tail.tail.tail.tail) (show 0 < L.length by omega)
            clear hz
            have nj := show ∀ w, Ent (rowN (some ⟨gk, 0, none⟩) kc ki :: pt b6 (.cells #[.string ⟨px.toArray⟩, .bool true, .string ⟨pb.toArray⟩] 41) :: pt b4 (.cells #[.string ⟨#[]⟩, .bool false, .string ⟨#[]⟩] 41) :: pt b2 (.cells #[.slice (some ⟨b, off, none⟩) L.length c] 33) :: l) w → (Instr.loadAt 3 (.pointer (some ⟨gk, j, none⟩))).run Tryd.prog w = .ok (.int .i64 (ki[j] : Int)) w from fun w h =>
              atCell (cells_of (reads_row h 0 rfl) j (intv ki[j]) (by rw [List.getElem?_map, List.getElem?_eq_getElem hj]; rfl)) (by simp [go_sem])
            have lj := show ∀ w, Ent l w → _ from fun w h => (load_en (hk _ h) hLk).2.1
            have hjI : (j : Int) < (ki.length : Int) := by omega
            have hLI : (ki[j] : Int) < (L.length : Int) := by omega
            have HFh := SL.hid (fun (h : L[ki[j]].path = tgt) => Found.hit (L := L) hj hLk h)
            have HFs := SL.hid (fun (h : (!(nm == [])) = true → L[ki[j]].path ≠ tgt) => hfo.skip (fun hne _ _ => h hne))
            have hkc : k + 1 ≤ 1000 := by omega
            have hwk1 : wrap64 ((k : Int) + 1) = ((k + 1 : Nat) : Int) := by unfold wrap64; omega
            have hwk2 : IntKind.i64.wrap ((k : Int) + 1) = (k : Int) + 1 := by
              simp only [IntKind.wrap, IntKind.bits, IntKind.signed]
              simp
              omega
            have h0k : 0 ≤ (k : Int) + 1 := by omega
            have hkt : ((k : Int) + 1).toNat = k + 1 := by omega
            have hcn : (k : Int) + 1 ≤ (cn : Int) := by omega
            have hcn2 : k + 1 ≤ cn := by omega
            generalize L[ki[j]].path = yp at *
            generalize ki[j] = kj at *
            have Nj := SL.hid nj
            have Lj := SL.hid lj
            clear nj lj hfo hn hk
            have hm1 := mkb yp tgt
            cases hty : (yp == tgt) with
            | false =>
              rw [hty] at hm1
              have HB := SL.hid (HFs.out (fun _ => by simpa using hty))
              clear HFs HFh
              go_wp2
              refine wp_region_held_drew (S := (fun w' => ((Instr.loadAt 22 (.pointer (some ⟨b2, 0, none⟩))).run Tryd.prog w' = .ok (.slice (some ⟨b, off, none⟩) L.length c) w') ∧ ((Instr.loadAt 3 (.pointer (some ⟨gk, j, none⟩))).run Tryd.prog w' = .ok (.int .i64 (kj : Int)) w') ∧ ((Instr.loadAt 9 (.pointer (some ⟨b, off + kj * 3, none⟩))).run Tryd.prog w' = .ok (.string ⟨yp.toArray⟩) w') ∧ ((Instr.loadAt 9 (.pointer (some ⟨bn, on + k, none⟩))).run Tryd.prog w' = .ok (.string ⟨nm.toArray⟩) w'))) (by kernel_rfl) ⟨(atVm hE.drew (by repeat (first | exact List.Mem.head _ | refine List.Mem.tail _ ?_)) (by simp [go_sem]) rfl), (Nj.out _ (by first | exact hE.drew | exact hE.drew.tail)), (Lj.out _ (hE.drew.suf (by repeat (first | exact List.suffix_refl _ | refine List.IsSuffix.trans ?_ (List.suffix_cons _ _))))), (Nn.out _ (hE.drew.suf (by repeat (first | exact List.suffix_refl _ | refine List.IsSuffix.trans ?_ (List.suffix_cons _ _)))))⟩ (fun hS => ?_)
              refine takeW 0 ⟨some 32, .fieldAddr 33 (.tmp 2) 0, 0, "ref.go:118", #[], none⟩ ?_ (.inl ⟨by rfl, ?_⟩) hS ?_
              rotate_left
              · (intro w hSw; (try dsimp only at hSw); go_simp; (try with_reducible rfl))
              try simp only [Act.put, sb, s0, sz]
              refine takeW 1 ⟨some 33, .load 22 (.tmp 32), 22, "ref.go:118", #[⟨0, .data⟩], none⟩ ?_ (.inl ⟨by rfl, ?_⟩) hS ?_
              rotate_left
              · (intro w hSw; (try dsimp only at hSw); go_simp; (try with_reducible rfl))
              try simp only [Act.put, sb, s0, sz]
              refine takeW 2 ⟨some 34, .move (.tmp 9), 72, "ref.go:118", #[], none⟩ ?_ (.inl ⟨by rfl, ?_⟩) hS ?_
              rotate_left
              · (intro w hSw; (try dsimp only at hSw); go_simp; (try with_reducible rfl))
              try simp only [Act.put, sb, s0, sz]
              refine takeW 3 ⟨some 35, .move (.tmp 10), 3, "ref.go:118", #[], none⟩ ?_ (.inl ⟨by rfl, ?_⟩) hS ?_
              rotate_left
              · (intro w hSw; (try dsimp only at hSw); go_simp; (try with_reducible rfl))
              try simp only [Act.put, sb, s0, sz]
              refine takeW 4 ⟨some 36, .indexAddr 72 (.tmp 34) (.tmp 35), 0, "ref.go:118", #[⟨2, .data⟩, ⟨3, .data⟩], none⟩ ?_ (.inl ⟨by rfl, ?_⟩) hS ?_
              rotate_left
              · (intro w hSw; (try dsimp only at hSw); go_simp; (try with_reducible rfl))
              try simp only [Act.put, sb, s0, sz]
              refine takeW 5 ⟨some 37, .load 3 (.tmp 36), 3, "ref.go:118", #[⟨4, .data⟩], none⟩ ?_ (.inl ⟨by rfl, ?_⟩) hS ?_
              rotate_left
              · (intro w hSw; (try dsimp only at hSw); go_simp; (try with_reducible rfl))
              try simp only [Act.put, sb, s0, sz]
              refine takeW 6 ⟨some 38, .indexAddr 22 (.tmp 33) (.tmp 37), 0, "ref.go:118", #[⟨1, .data⟩, ⟨5, .data⟩], none⟩ ?_ (.inl ⟨by rfl, ?_⟩) hS ?_
              rotate_left
              · (intro w hSw; (try dsimp only at hSw); go_simp; (try with_reducible rfl))
              try simp only [Act.put, sb, s0, sz]
              refine takeW 7 ⟨some 39, .fieldAddr 41 (.tmp 38) 0, 0, "ref.go:118", #[⟨6, .data⟩], none⟩ ?_ (.inl ⟨by rfl, ?_⟩) hS ?_
              rotate_left
              · (intro w hSw; (try dsimp only at hSw); go_simp; (try with_reducible rfl))
              try simp only [Act.put, sb, s0, sz]
              refine takeW 8 ⟨some 40, .load 9 (.tmp 39), 9, "ref.go:118", #[⟨7, .data⟩], none⟩ ?_ (.inl ⟨by rfl, ?_⟩) hS ?_
              rotate_left
              · (intro w hSw; (try dsimp only at hSw); go_simp; (try with_reducible rfl))
              try simp only [Act.put, sb, s0, sz]
              refine takeW 9 ⟨some 41, .move (.tmp 1), 23, "ref.go:118", #[], none⟩ ?_ (.inl ⟨by rfl, ?_⟩) hS ?_
              rotate_left
              · (intro w hSw; (try dsimp only at hSw); go_simp; (try with_reducible rfl))
              try simp only [Act.put, sb, s0, sz]
              refine takeW 10 ⟨some 42, .move (.tmp 7), 3, "ref.go:118", #[], none⟩ ?_ (.inl ⟨by rfl, ?_⟩) hS ?_
              rotate_left
              · (intro w hSw; (try dsimp only at hSw); go_simp; (try with_reducible rfl))
              try simp only [Act.put, sb, s0, sz]
              refine takeW 11 ⟨some 43, .binOp .add 3 (.tmp 42) (.const (.int .i64 1)) 3, 3, "ref.go:118", #[⟨10, .data⟩], none⟩ ?_ (.inl ⟨by rfl, ?_⟩) hS ?_
              rotate_left
              · (intro w hSw; (try dsimp only at hSw); go_simp; (try with_reducible rfl))
              try simp only [Act.put, sb, s0, sz]
              refine takeW 12 ⟨some 44, .slice 23 (.tmp 41) none (some (.tmp 43)) none, 23, "ref.go:118", #[⟨9, .data⟩, ⟨11, .data⟩], none⟩ ?_ (.inl ⟨by rfl, ?_⟩) hS ?_
              rotate_left
              · (intro w hSw; (try dsimp only at hSw); go_simp; (try with_reducible rfl))
              try simp only [Act.put, sb, s0, sz]
              refine wpAnyH_ready (rs := [13]) (by kernel_rfl) (by simp) ?_
              refine (AllReadyH.cons (o := { dst := some 45, op := Go.Op.call { callee := Go.Callee.builtin Go.Builtin.append, args := #[Go.Operand.const (Go.Value.slice none 0 0), Go.Operand.tmp 44], argTypes := #[23, 23] }, type := 23, pos := "ref.go:118", after := #[{ on := 12, ground := Go.Ground.data }], guard := none }) rfl (fun K hK => ?_) AllReadyH.nil)
              (refine step_appendNil hE.drew rfl (by rfl) (by rfl) (by rfl) Tryd.underlying23 info_str (by decide) (HN1.out _ (hE.drew.suf (by repeat (first | exact List.suffix_refl _ | refine List.IsSuffix.trans ?_ (List.suffix_cons _ _))))) HN2.out HN3.out (by omega) (by omega) ?_; intro a1 c1 w6 hA)
              refine hK.out _ _ ⟨(atVm hA (by repeat (first | exact List.Mem.head _ | refine List.Mem.tail _ ?_)) (by simp [go_sem]) rfl), (Nj.out _ (by first | exact hA | exact hA.tail)), (Lj.out _ (hA.suf (by repeat (first | exact List.suffix_refl _ | refine List.IsSuffix.trans ?_ (List.suffix_cons _ _))))), (Nn.out _ (hA.suf (by repeat (first | exact List.suffix_refl _ | refine List.IsSuffix.trans ?_ (List.suffix_cons _ _)))))⟩ (fun hS => ?_)
              clear hK K
              try simp only [Act.put, sb, s0, sz]
              refine wpAnyH_ready (rs := [14]) (by kernel_rfl) (by simp) ?_
              refine (AllReadyH.cons (o := { dst := some 46, op := Go.Op.call { callee := Go.Callee.value (Go.Operand.func 37), args := #[Go.Operand.tmp 45], argTypes := #[23] }, type := 9, pos := "ref.go:118", after := #[{ on := 13, ground := Go.Ground.data }, { on := 13, ground := Go.Ground.chain }], guard := none }) rfl (fun K hK => ?_) AllReadyH.nil)
              (go_simp; refine (HJ.out _ _ _ _ hA).mono ?_; rintro e w7 ⟨v, rfl, rfl, hB⟩)
              refine hK.out _ _ ⟨(atVm hB (by repeat (first | exact List.Mem.head _ | refine List.Mem.tail _ ?_)) (by simp [go_sem]) rfl), (Nj.out _ (by first | exact hB | exact hB.tail)), (Lj.out _ (hB.suf (by repeat (first | exact List.suffix_refl _ | refine List.IsSuffix.trans ?_ (List.suffix_cons _ _))))), (Nn.out _ (hB.suf (by repeat (first | exact List.suffix_refl _ | refine List.IsSuffix.trans ?_ (List.suffix_cons _ _)))))⟩ (fun hS => ?_)
              clear hK K
              try simp only [Act.put, sb, s0, sz]
              refine takeW 15 ⟨some 47, .binOp .eql 9 (.tmp 40) (.tmp 46) 9, 4, "ref.go:118", #[⟨8, .data⟩, ⟨14, .data⟩], none⟩ ?_ (.inl ⟨by rfl, ?_⟩) hS ?_
              rotate_left
              · (intro w hSw; (try dsimp only at hSw); go_simp; (try with_reducible rfl))
              try simp only [Act.put, sb, s0, sz]
              refine takeW 16 ⟨some 48, .move (.tmp 47), 4, "ref.go:118", #[⟨15, .data⟩, ⟨14, .chain⟩], none⟩ ?_ (.inl ⟨by rfl, ?_⟩) hS ?_
              rotate_left
              · (intro w hSw; (try dsimp only at hSw); go_simp; (try with_reducible rfl))
              try simp only [Act.put, sb, s0, sz]
              refine takeW 17 ⟨some 49, .move (.tmp 1), 23, "ref.go:118", #[⟨16, .guard⟩], some (16, true)⟩ undef (.inr ⟨by rfl, rfl⟩) hS ?_; try simp only [Act.put, sb, s0, sz]
              refine takeW 18 ⟨some 50, .move (.tmp 7), 3, "ref.go:118", #[⟨16, .guard⟩], some (16, true)⟩ undef (.inr ⟨by rfl, rfl⟩) hS ?_; try simp only [Act.put, sb, s0, sz]
              refine takeW 19 ⟨some 51, .indexAddr 23 (.tmp 49) (.tmp 50), 0, "ref.go:118", #[⟨17, .data⟩, ⟨18, .data⟩, ⟨16, .guard⟩], some (16, true)⟩ undef (.inr ⟨by rfl, rfl⟩) hS ?_; try simp only [Act.put, sb, s0, sz]
              refine takeW 20 ⟨some 52, .load 9 (.tmp 51), 9, "ref.go:118", #[⟨19, .data⟩, ⟨16, .guard⟩], some (16, true)⟩ undef (.inr ⟨by rfl, rfl⟩) hS ?_; try simp only [Act.put, sb, s0, sz]
              refine takeW 21 ⟨some 53, .binOp .neq 9 (.tmp 52) (.const (.string { data := #[] })) 9, 4, "ref.go:118", #[⟨20, .data⟩, ⟨16, .guard⟩], some (16, true)⟩ undef (.inr ⟨by rfl, rfl⟩) hS ?_; try simp only [Act.put, sb, s0, sz]
              refine takeW 22 ⟨some 54, .pick (.tmp 48) (.tmp 53) (.const (.bool false)), 4, "ref.go:118", #[⟨16, .data⟩, ⟨21, .data⟩], none⟩ ?_ (.inl ⟨by rfl, ?_⟩) hS ?_
              rotate_left
              · (intro w hSw; (try dsimp only at hSw); go_simp; (try with_reducible rfl))
              try simp only [Act.put, sb, s0, sz]
              refine wpAnyH_done (by kernel_rfl) ?_ _
              clear hS hA
              go_wp2_with (first
                | go_skip
                | ((with_reducible (show Go.wpList _ _ _ (Go.Oper.mk _ (.load 3 _) _ _ _ _ :: _) _ _)); refine wpl_run rfl (w' := w7) (v := .int .i64 (kj : Int)) (by simp only [execOp, Act.eval]; simp [Nj.out _ hB.tail]) ?_))
              go_roundw
              case rel => exact ⟨j + 1, by omega, by first | rfl | simp, HB.out, hB.tail⟩
              case measure => simp [intOf] <;> omega
            | true =>
              rw [hty] at hm1
              cases hne : (nm == []) with
              | true =>
                rw [hne] at hmn HFs
                have HB := SL.hid (HFs.out (fun h => by cases h))
                clear HFs HFh
                go_wp2
                refine wp_region_held_drew (S := (fun w' => ((Instr.loadAt 22 (.pointer (some ⟨b2, 0, none⟩))).run Tryd.prog w' = .ok (.slice (some ⟨b, off, none⟩) L.length c) w') ∧ ((Instr.loadAt 3 (.pointer (some ⟨gk, j, none⟩))).run Tryd.prog w' = .ok (.int .i64 (kj : Int)) w') ∧ ((Instr.loadAt 9 (.pointer (some ⟨b, off + kj * 3, none⟩))).run Tryd.prog w' = .ok (.string ⟨yp.toArray⟩) w') ∧ ((Instr.loadAt 9 (.pointer (some ⟨bn, on + k, none⟩))).run Tryd.prog w' = .ok (.string ⟨nm.toArray⟩) w'))) (by kernel_rfl) ⟨(atVm hE.drew (by repeat (first | exact List.Mem.head _ | refine List.Mem.tail _ ?_)) (by simp [go_sem]) rfl), (Nj.out _ (by first | exact hE.drew | exact hE.drew.tail)), (Lj.out _ (hE.drew.suf (by repeat (first | exact List.suffix_refl _ | refine List.IsSuffix.trans ?_ (List.suffix_cons _ _))))), (Nn.out _ (hE.drew.suf (by repeat (first | exact List.suffix_refl _ | refine List.IsSuffix.trans ?_ (List.suffix_cons _ _)))))⟩ (fun hS => ?_)
                refine takeW 0 ⟨some 32, .fieldAddr 33 (.tmp 2) 0, 0, "ref.go:118", #[], none⟩ ?_ (.inl ⟨by rfl, ?_⟩) hS ?_
                rotate_left
                · (intro w hSw; (try dsimp only at hSw); go_simp; (try with_reducible rfl))
                try simp only [Act.put, sb, s0, sz]
                refine takeW 1 ⟨some 33, .load 22 (.tmp 32), 22, "ref.go:118", #[⟨0, .data⟩], none⟩ ?_ (.inl ⟨by rfl, ?_⟩) hS ?_
                rotate_left
                · (intro w hSw; (try dsimp only at hSw); go_simp; (try with_reducible rfl))
                try simp only [Act.put, sb, s0, sz]
                refine takeW 2 ⟨some 34, .move (.tmp 9), 72, "ref.go:118", #[], none⟩ ?_ (.inl ⟨by rfl, ?_⟩) hS ?_
                rotate_left
                · (intro w hSw; (try dsimp only at hSw); go_simp; (try with_reducible rfl))
                try simp only [Act.put, sb, s0, sz]
                refine takeW 3 ⟨some 35, .move (.tmp 10), 3, "ref.go:118", #[], none⟩ ?_ (.inl ⟨by rfl, ?_⟩) hS ?_
                rotate_left
                · (intro w hSw; (try dsimp only at hSw); go_simp; (try with_reducible rfl))
                try simp only [Act.put, sb, s0, sz]
                refine takeW 4 ⟨some 36, .indexAddr 72 (.tmp 34) (.tmp 35), 0, "ref.go:118", #[⟨2, .data⟩, ⟨3, .data⟩], none⟩ ?_ (.inl ⟨by rfl, ?_⟩) hS ?_
                rotate_left
                · (intro w hSw; (try dsimp only at hSw); go_simp; (try with_reducible rfl))
                try simp only [Act.put, sb, s0, sz]
                refine takeW 5 ⟨some 37, .load 3 (.tmp 36), 3, "ref.go:118", #[⟨4, .data⟩], none⟩ ?_ (.inl ⟨by rfl, ?_⟩) hS ?_
                rotate_left
                · (intro w hSw; (try dsimp only at hSw); go_simp; (try with_reducible rfl))
                try simp only [Act.put, sb, s0, sz]
                refine takeW 6 ⟨some 38, .indexAddr 22 (.tmp 33) (.tmp 37), 0, "ref.go:118", #[⟨1, .data⟩, ⟨5, .data⟩], none⟩ ?_ (.inl ⟨by rfl, ?_⟩) hS ?_
                rotate_left
                · (intro w hSw; (try dsimp only at hSw); go_simp; (try with_reducible rfl))
                try simp only [Act.put, sb, s0, sz]
                refine takeW 7 ⟨some 39, .fieldAddr 41 (.tmp 38) 0, 0, "ref.go:118", #[⟨6, .data⟩], none⟩ ?_ (.inl ⟨by rfl, ?_⟩) hS ?_
                rotate_left
                · (intro w hSw; (try dsimp only at hSw); go_simp; (try with_reducible rfl))
                try simp only [Act.put, sb, s0, sz]
                refine takeW 8 ⟨some 40, .load 9 (.tmp 39), 9, "ref.go:118", #[⟨7, .data⟩], none⟩ ?_ (.inl ⟨by rfl, ?_⟩) hS ?_
                rotate_left
                · (intro w hSw; (try dsimp only at hSw); go_simp; (try with_reducible rfl))
                try simp only [Act.put, sb, s0, sz]
                refine takeW 9 ⟨some 41, .move (.tmp 1), 23, "ref.go:118", #[], none⟩ ?_ (.inl ⟨by rfl, ?_⟩) hS ?_
                rotate_left
                · (intro w hSw; (try dsimp only at hSw); go_simp; (try with_reducible rfl))
                try simp only [Act.put, sb, s0, sz]
                refine takeW 10 ⟨some 42, .move (.tmp 7), 3, "ref.go:118", #[], none⟩ ?_ (.inl ⟨by rfl, ?_⟩) hS ?_
                rotate_left
                · (intro w hSw; (try dsimp only at hSw); go_simp; (try with_reducible rfl))
                try simp only [Act.put, sb, s0, sz]
                refine takeW 11 ⟨some 43, .binOp .add 3 (.tmp 42) (.const (.int .i64 1)) 3, 3, "ref.go:118", #[⟨10, .data⟩], none⟩ ?_ (.inl ⟨by rfl, ?_⟩) hS ?_
                rotate_left
                · (intro w hSw; (try dsimp only at hSw); go_simp; (try with_reducible rfl))
                try simp only [Act.put, sb, s0, sz]
                refine takeW 12 ⟨some 44, .slice 23 (.tmp 41) none (some (.tmp 43)) none, 23, "ref.go:118", #[⟨9, .data⟩, ⟨11, .data⟩], none⟩ ?_ (.inl ⟨by rfl, ?_⟩) hS ?_
                rotate_left
                · (intro w hSw; (try dsimp only at hSw); go_simp; (try with_reducible rfl))
                try simp only [Act.put, sb, s0, sz]
                refine wpAnyH_ready (rs := [13]) (by kernel_rfl) (by simp) ?_
                refine (AllReadyH.cons (o := { dst := some 45, op := Go.Op.call { callee := Go.Callee.builtin Go.Builtin.append, args := #[Go.Operand.const (Go.Value.slice none 0 0), Go.Operand.tmp 44], argTypes := #[23, 23] }, type := 23, pos := "ref.go:118", after := #[{ on := 12, ground := Go.Ground.data }], guard := none }) rfl (fun K hK => ?_) AllReadyH.nil)
                (refine step_appendNil hE.drew rfl (by rfl) (by rfl) (by rfl) Tryd.underlying23 info_str (by decide) (HN1.out _ (hE.drew.suf (by repeat (first | exact List.suffix_refl _ | refine List.IsSuffix.trans ?_ (List.suffix_cons _ _))))) HN2.out HN3.out (by omega) (by omega) ?_; intro a1 c1 w6 hA)
                refine hK.out _ _ ⟨(atVm hA (by repeat (first | exact List.Mem.head _ | refine List.Mem.tail _ ?_)) (by simp [go_sem]) rfl), (Nj.out _ (by first | exact hA | exact hA.tail)), (Lj.out _ (hA.suf (by repeat (first | exact List.suffix_refl _ | refine List.IsSuffix.trans ?_ (List.suffix_cons _ _))))), (Nn.out _ (hA.suf (by repeat (first | exact List.suffix_refl _ | refine List.IsSuffix.trans ?_ (List.suffix_cons _ _)))))⟩ (fun hS => ?_)
                clear hK K
                try simp only [Act.put, sb, s0, sz]
                refine wpAnyH_ready (rs := [14]) (by kernel_rfl) (by simp) ?_
                refine (AllReadyH.cons (o := { dst := some 46, op := Go.Op.call { callee := Go.Callee.value (Go.Operand.func 37), args := #[Go.Operand.tmp 45], argTypes := #[23] }, type := 9, pos := "ref.go:118", after := #[{ on := 13, ground := Go.Ground.data }, { on := 13, ground := Go.Ground.chain }], guard := none }) rfl (fun K hK => ?_) AllReadyH.nil)
                (go_simp; refine (HJ.out _ _ _ _ hA).mono ?_; rintro e w7 ⟨v, rfl, rfl, hB⟩)
                refine hK.out _ _ ⟨(atVm hB (by repeat (first | exact List.Mem.head _ | refine List.Mem.tail _ ?_)) (by simp [go_sem]) rfl), (Nj.out _ (by first | exact hB | exact hB.tail)), (Lj.out _ (hB.suf (by repeat (first | exact List.suffix_refl _ | refine List.IsSuffix.trans ?_ (List.suffix_cons _ _))))), (Nn.out _ (hB.suf (by repeat (first | exact List.suffix_refl _ | refine List.IsSuffix.trans ?_ (List.suffix_cons _ _)))))⟩ (fun hS => ?_)
                clear hK K
                try simp only [Act.put, sb, s0, sz]
                refine takeW 15 ⟨some 47, .binOp .eql 9 (.tmp 40) (.tmp 46) 9, 4, "ref.go:118", #[⟨8, .data⟩, ⟨14, .data⟩], none⟩ ?_ (.inl ⟨by rfl, ?_⟩) hS ?_
                rotate_left
                · (intro w hSw; (try dsimp only at hSw); go_simp; (try with_reducible rfl))
                try simp only [Act.put, sb, s0, sz]
                refine takeW 16 ⟨some 48, .move (.tmp 47), 4, "ref.go:118", #[⟨15, .data⟩, ⟨14, .chain⟩], none⟩ ?_ (.inl ⟨by rfl, ?_⟩) hS ?_
                rotate_left
                · (intro w hSw; (try dsimp only at hSw); go_simp; (try with_reducible rfl))
                try simp only [Act.put, sb, s0, sz]
                refine takeW 17 ⟨some 49, .move (.tmp 1), 23, "ref.go:118", #[⟨16, .guard⟩], some (16, true)⟩ ?_ (.inl ⟨by rfl, ?_⟩) hS ?_
                rotate_left
                · (intro w hSw; (try dsimp only at hSw); go_simp; (try with_reducible rfl))
                try simp only [Act.put, sb, s0, sz]
                refine takeW 18 ⟨some 50, .move (.tmp 7), 3, "ref.go:118", #[⟨16, .guard⟩], some (16, true)⟩ ?_ (.inl ⟨by rfl, ?_⟩) hS ?_
                rotate_left
                · (intro w hSw; (try dsimp only at hSw); go_simp; (try with_reducible rfl))
                try simp only [Act.put, sb, s0, sz]
                refine takeW 19 ⟨some 51, .indexAddr 23 (.tmp 49) (.tmp 50), 0, "ref.go:118", #[⟨17, .data⟩, ⟨18, .data⟩, ⟨16, .guard⟩], some (16, true)⟩ ?_ (.inl ⟨by rfl, ?_⟩) hS ?_
                rotate_left
                · (intro w hSw; (try dsimp only at hSw); go_simp; (try with_reducible rfl))
                try simp only [Act.put, sb, s0, sz]
                refine takeW 20 ⟨some 52, .load 9 (.tmp 51), 9, "ref.go:118", #[⟨19, .data⟩, ⟨16, .guard⟩], some (16, true)⟩ ?_ (.inl ⟨by rfl, ?_⟩) hS ?_
                rotate_left
                · (intro w hSw; (try dsimp only at hSw); go_simp; (try with_reducible rfl))
                try simp only [Act.put, sb, s0, sz]
                refine takeW 21 ⟨some 53, .binOp .neq 9 (.tmp 52) (.const (.string { data := #[] })) 9, 4, "ref.go:118", #[⟨20, .data⟩, ⟨16, .guard⟩], some (16, true)⟩ ?_ (.inl ⟨by rfl, ?_⟩) hS ?_
                rotate_left
                · (intro w hSw; (try dsimp only at hSw); go_simp; (try with_reducible rfl))
                try simp only [Act.put, sb, s0, sz]
                refine takeW 22 ⟨some 54, .pick (.tmp 48) (.tmp 53) (.const (.bool false)), 4, "ref.go:118", #[⟨16, .data⟩, ⟨21, .data⟩], none⟩ ?_ (.inl ⟨by rfl, ?_⟩) hS ?_
                rotate_left
                · (intro w hSw; (try dsimp only at hSw); go_simp; (try with_reducible rfl))
                try simp only [Act.put, sb, s0, sz]
                refine wpAnyH_done (by kernel_rfl) ?_ _
                clear hS hA
                go_wp2_with (first
                  | go_skip
                  | ((with_reducible (show Go.wpList _ _ _ (Go.Oper.mk _ (.load 3 _) _ _ _ _ :: _) _ _)); refine wpl_run rfl (w' := w7) (v := .int .i64 (kj : Int)) (by simp only [execOp, Act.eval]; simp [Nj.out _ hB.tail]) ?_))
                go_roundw
                case rel => exact ⟨j + 1, by omega, by first | rfl | simp, HB.out, hB.tail⟩
                case measure => simp [intOf] <;> omega
              | false =>
                rw [hne] at hmn
                have HB := SL.hid (HFh.out (by simpa using hty))
                clear HFs HFh
                go_wp2
                refine wp_region_held_drew (S := (fun w' => ((Instr.loadAt 22 (.pointer (some ⟨b2, 0, none⟩))).run Tryd.prog w' = .ok (.slice (some ⟨b, off, none⟩) L.length c) w') ∧ ((Instr.loadAt 3 (.pointer (some ⟨gk, j, none⟩))).run Tryd.prog w' = .ok (.int .i64 (kj : Int)) w') ∧ ((Instr.loadAt 9 (.pointer (some ⟨b, off + kj * 3, none⟩))).run Tryd.prog w' = .ok (.string ⟨yp.toArray⟩) w') ∧ ((Instr.loadAt 9 (.pointer (some ⟨bn, on + k, none⟩))).run Tryd.prog w' = .ok (.string ⟨nm.toArray⟩) w'))) (by kernel_rfl) ⟨(atVm hE.drew (by repeat (first | exact List.Mem.head _ | refine List.Mem.tail _ ?_)) (by simp [go_sem]) rfl), (Nj.out _ (by first | exact hE.drew | exact hE.drew.tail)), (Lj.out _ (hE.drew.suf (by repeat (first | exact List.suffix_refl _ | refine List.IsSuffix.trans ?_ (List.suffix_cons _ _))))), (Nn.out _ (hE.drew.suf (by repeat (first | exact List.suffix_refl _ | refine List.IsSuffix.trans ?_ (List.suffix_cons _ _)))))⟩ (fun hS => ?_)
                refine takeW 0 ⟨some 32, .fieldAddr 33 (.tmp 2) 0, 0, "ref.go:118", #[], none⟩ ?_ (.inl ⟨by rfl, ?_⟩) hS ?_
                rotate_left
                · (intro w hSw; (try dsimp only at hSw); go_simp; (try with_reducible rfl))
                try simp only [Act.put, sb, s0, sz]
                refine takeW 1 ⟨some 33, .load 22 (.tmp 32), 22, "ref.go:118", #[⟨0, .data⟩], none⟩ ?_ (.inl ⟨by rfl, ?_⟩) hS ?_
                rotate_left
                · (intro w hSw; (try dsimp only at hSw); go_simp; (try with_reducible rfl))
                try simp only [Act.put, sb, s0, sz]
                refine takeW 2 ⟨some 34, .move (.tmp 9), 72, "ref.go:118", #[], none⟩ ?_ (.inl ⟨by rfl, ?_⟩) hS ?_
                rotate_left
                · (intro w hSw; (try dsimp only at hSw); go_simp; (try with_reducible rfl))
                try simp only [Act.put, sb, s0, sz]
                refine takeW 3 ⟨some 35, .move (.tmp 10), 3, "ref.go:118", #[], none⟩ ?_ (.inl ⟨by rfl, ?_⟩) hS ?_
                rotate_left
                · (intro w hSw; (try dsimp only at hSw); go_simp; (try with_reducible rfl))
                try simp only [Act.put, sb, s0, sz]
                refine takeW 4 ⟨some 36, .indexAddr 72 (.tmp 34) (.tmp 35), 0, "ref.go:118", #[⟨2, .data⟩, ⟨3, .data⟩], none⟩ ?_ (.inl ⟨by rfl, ?_⟩) hS ?_
                rotate_left
                · (intro w hSw; (try dsimp only at hSw); go_simp; (try with_reducible rfl))
                try simp only [Act.put, sb, s0, sz]
                refine takeW 5 ⟨some 37, .load 3 (.tmp 36), 3, "ref.go:118", #[⟨4, .data⟩], none⟩ ?_ (.inl ⟨by rfl, ?_⟩) hS ?_
                rotate_left
                · (intro w hSw; (try dsimp only at hSw); go_simp; (try with_reducible rfl))
                try simp only [Act.put, sb, s0, sz]
                refine takeW 6 ⟨some 38, .indexAddr 22 (.tmp 33) (.tmp 37), 0, "ref.go:118", #[⟨1, .data⟩, ⟨5, .data⟩], none⟩ ?_ (.inl ⟨by rfl, ?_⟩) hS ?_
                rotate_left
                · (intro w hSw; (try dsimp only at hSw); go_simp; (try with_reducible rfl))
                try simp only [Act.put, sb, s0, sz]
                refine takeW 7 ⟨some 39, .fieldAddr 41 (.tmp 38) 0, 0, "ref.go:118", #[⟨6, .data⟩], none⟩ ?_ (.inl ⟨by rfl, ?_⟩) hS ?_
                rotate_left
                · (intro w hSw; (try dsimp only at hSw); go_simp; (try with_reducible rfl))
                try simp only [Act.put, sb, s0, sz]
                refine takeW 8 ⟨some 40, .load 9 (.tmp 39), 9, "ref.go:118", #[⟨7, .data⟩], none⟩ ?_ (.inl ⟨by rfl, ?_⟩) hS ?_
                rotate_left
                · (intro w hSw; (try dsimp only at hSw); go_simp; (try with_reducible rfl))
                try simp only [Act.put, sb, s0, sz]
                refine takeW 9 ⟨some 41, .move (.tmp 1), 23, "ref.go:118", #[], none⟩ ?_ (.inl ⟨by rfl, ?_⟩) hS ?_
                rotate_left
                · (intro w hSw; (try dsimp only at hSw); go_simp; (try with_reducible rfl))
                try simp only [Act.put, sb, s0, sz]
                refine takeW 10 ⟨some 42, .move (.tmp 7), 3, "ref.go:118", #[], none⟩ ?_ (.inl ⟨by rfl, ?_⟩) hS ?_
                rotate_left
                · (intro w hSw; (try dsimp only at hSw); go_simp; (try with_reducible rfl))
                try simp only [Act.put, sb, s0, sz]
                refine takeW 11 ⟨some 43, .binOp .add 3 (.tmp 42) (.const (.int .i64 1)) 3, 3, "ref.go:118", #[⟨10, .data⟩], none⟩ ?_ (.inl ⟨by rfl, ?_⟩) hS ?_
                rotate_left
                · (intro w hSw; (try dsimp only at hSw); go_simp; (try with_reducible rfl))
                try simp only [Act.put, sb, s0, sz]
                refine takeW 12 ⟨some 44, .slice 23 (.tmp 41) none (some (.tmp 43)) none, 23, "ref.go:118", #[⟨9, .data⟩, ⟨11, .data⟩], none⟩ ?_ (.inl ⟨by rfl, ?_⟩) hS ?_
                rotate_left
                · (intro w hSw; (try dsimp only at hSw); go_simp; (try with_reducible rfl))
                try simp only [Act.put, sb, s0, sz]
                refine wpAnyH_ready (rs := [13]) (by kernel_rfl) (by simp) ?_
                refine (AllReadyH.cons (o := { dst := some 45, op := Go.Op.call { callee := Go.Callee.builtin Go.Builtin.append, args := #[Go.Operand.const (Go.Value.slice none 0 0), Go.Operand.tmp 44], argTypes := #[23, 23] }, type := 23, pos := "ref.go:118", after := #[{ on := 12, ground := Go.Ground.data }], guard := none }) rfl (fun K hK => ?_) AllReadyH.nil)
                (refine step_appendNil hE.drew rfl (by rfl) (by rfl) (by rfl) Tryd.underlying23 info_str (by decide) (HN1.out _ (hE.drew.suf (by repeat (first | exact List.suffix_refl _ | refine List.IsSuffix.trans ?_ (List.suffix_cons _ _))))) HN2.out HN3.out (by omega) (by omega) ?_; intro a1 c1 w6 hA)
                refine hK.out _ _ ⟨(atVm hA (by repeat (first | exact List.Mem.head _ | refine List.Mem.tail _ ?_)) (by simp [go_sem]) rfl), (Nj.out _ (by first | exact hA | exact hA.tail)), (Lj.out _ (hA.suf (by repeat (first | exact List.suffix_refl _ | refine List.IsSuffix.trans ?_ (List.suffix_cons _ _))))), (Nn.out _ (hA.suf (by repeat (first | exact List.suffix_refl _ | refine List.IsSuffix.trans ?_ (List.suffix_cons _ _)))))⟩ (fun hS => ?_)
                clear hK K
                try simp only [Act.put, sb, s0, sz]
                refine wpAnyH_ready (rs := [14]) (by kernel_rfl) (by simp) ?_
                refine (AllReadyH.cons (o := { dst := some 46, op := Go.Op.call { callee := Go.Callee.value (Go.Operand.func 37), args := #[Go.Operand.tmp 45], argTypes := #[23] }, type := 9, pos := "ref.go:118", after := #[{ on := 13, ground := Go.Ground.data }, { on := 13, ground := Go.Ground.chain }], guard := none }) rfl (fun K hK => ?_) AllReadyH.nil)
                (go_simp; refine (HJ.out _ _ _ _ hA).mono ?_; rintro e w7 ⟨v, rfl, rfl, hB⟩)
                refine hK.out _ _ ⟨(atVm hB (by repeat (first | exact List.Mem.head _ | refine List.Mem.tail _ ?_)) (by simp [go_sem]) rfl), (Nj.out _ (by first | exact hB | exact hB.tail)), (Lj.out _ (hB.suf (by repeat (first | exact List.suffix_refl _ | refine List.IsSuffix.trans ?_ (List.suffix_cons _ _))))), (Nn.out _ (hB.suf (by repeat (first | exact List.suffix_refl _ | refine List.IsSuffix.trans ?_ (List.suffix_cons _ _)))))⟩ (fun hS => ?_)
                clear hK K
                try simp only [Act.put, sb, s0, sz]
                refine takeW 15 ⟨some 47, .binOp .eql 9 (.tmp 40) (.tmp 46) 9, 4, "ref.go:118", #[⟨8, .data⟩, ⟨14, .data⟩], none⟩ ?_ (.inl ⟨by rfl, ?_⟩) hS ?_
                rotate_left
                · (intro w hSw; (try dsimp only at hSw); go_simp; (try with_reducible rfl))
                try simp only [Act.put, sb, s0, sz]
                refine takeW 16 ⟨some 48, .move (.tmp 47), 4, "ref.go:118", #[⟨15, .data⟩, ⟨14, .chain⟩], none⟩ ?_ (.inl ⟨by rfl, ?_⟩) hS ?_
                rotate_left
                · (intro w hSw; (try dsimp only at hSw); go_simp; (try with_reducible rfl))
                try simp only [Act.put, sb, s0, sz]
                refine takeW 17 ⟨some 49, .move (.tmp 1), 23, "ref.go:118", #[⟨16, .guard⟩], some (16, true)⟩ ?_ (.inl ⟨by rfl, ?_⟩) hS ?_
                rotate_left
                · (intro w hSw; (try dsimp only at hSw); go_simp; (try with_reducible rfl))
                try simp only [Act.put, sb, s0, sz]
                refine takeW 18 ⟨some 50, .move (.tmp 7), 3, "ref.go:118", #[⟨16, .guard⟩], some (16, true)⟩ ?_ (.inl ⟨by rfl, ?_⟩) hS ?_
                rotate_left
                · (intro w hSw; (try dsimp only at hSw); go_simp; (try with_reducible rfl))
                try simp only [Act.put, sb, s0, sz]
                refine takeW 19 ⟨some 51, .indexAddr 23 (.tmp 49) (.tmp 50), 0, "ref.go:118", #[⟨17, .data⟩, ⟨18, .data⟩, ⟨16, .guard⟩], some (16, true)⟩ ?_ (.inl ⟨by rfl, ?_⟩) hS ?_
                rotate_left
                · (intro w hSw; (try dsimp only at hSw); go_simp; (try with_reducible rfl))
                try simp only [Act.put, sb, s0, sz]
                refine takeW 20 ⟨some 52, .load 9 (.tmp 51), 9, "ref.go:118", #[⟨19, .data⟩, ⟨16, .guard⟩], some (16, true)⟩ ?_ (.inl ⟨by rfl, ?_⟩) hS ?_
                rotate_left
                · (intro w hSw; (try dsimp only at hSw); go_simp; (try with_reducible rfl))
                try simp only [Act.put, sb, s0, sz]
                refine takeW 21 ⟨some 53, .binOp .neq 9 (.tmp 52) (.const (.string { data := #[] })) 9, 4, "ref.go:118", #[⟨20, .data⟩, ⟨16, .guard⟩], some (16, true)⟩ ?_ (.inl ⟨by rfl, ?_⟩) hS ?_
                rotate_left
                · (intro w hSw; (try dsimp only at hSw); go_simp; (try with_reducible rfl))
                try simp only [Act.put, sb, s0, sz]
                refine takeW 22 ⟨some 54, .pick (.tmp 48) (.tmp 53) (.const (.bool false)), 4, "ref.go:118", #[⟨16, .data⟩, ⟨21, .data⟩], none⟩ ?_ (.inl ⟨by rfl, ?_⟩) hS ?_
                rotate_left
                · (intro w hSw; (try dsimp only at hSw); go_simp; (try with_reducible rfl))
                try simp only [Act.put, sb, s0, sz]
                refine wpAnyH_done (by kernel_rfl) ?_ _
                clear hS hA
                go_wp2_with (first
                  | go_skip
                  | ((with_reducible (show Go.wpList _ _ _ (Go.Oper.mk _ (.load 3 _) _ _ _ _ :: _) _ _)); refine wpl_run rfl (w' := w7) (v := .int .i64 (kj : Int)) (by simp only [execOp, Act.eval]; simp [Nj.out _ hB.tail]) ?_))
                go_roundw
                case rel => exact ⟨j + 1, by omega, by first | rfl | simp, HB.out, hB.tail⟩
                case measure => simp [intOf] <;> omega
          · obtain rfl : j = ki.length := by omega
            cases hnm : isName nm with
            | false =>
              have HT := SL.hid (show atT 11 10 q t = (10, .zero) from by rw [HB2.out, HNo.out hnm])
              rw [hnm] at HNa
              clear HB2 HNo HF HG2 hnm
              rcases hfo with ⟨rfl, _⟩ | ⟨m, h1, h2, _, rfl, _, _⟩
              · go_wp2_with (first
                  | go_skip
                  | ((with_reducible (show Go.wpList _ _ _ (Go.Oper.mk _ (.load 9 _) _ _ _ _ :: _) _ _)); refine wpl_run rfl (w' := wr) (v := .string ⟨nm.toArray⟩) (by simp only [execOp, Act.eval]; simp [Nn.out _ hE.tail.tail.tail.tail]) ?_)
                  | (go_at_call 38; refine (HNa.out _).mono ?_; rintro e w9 ⟨rfl, rfl⟩)
                  | ((with_reducible (show Go.wpList _ _ _ (Go.Oper.mk _ (.store 41 _ _) _ _ _ _ :: _) _ _)); (first | (refine wpl_storeW hE 0 rfl rfl rfl (xs := [.string ⟨#[]⟩, .bool false, .string ⟨#[]⟩]) rfl rfl Tryd.sizeOf41 rfl (by simp [Value.oneCell']) rfl ?_) | (refine wpl_storeW hE 1 rfl rfl rfl (xs := [.string ⟨#[]⟩, .bool false, .string ⟨#[]⟩]) rfl rfl Tryd.sizeOf41 rfl (by simp [Value.oneCell']) rfl ?_) | (refine wpl_storeW hE 2 rfl rfl rfl (xs := [.string ⟨#[]⟩, .bool false, .string ⟨#[]⟩]) rfl rfl Tryd.sizeOf41 rfl (by simp [Value.oneCell']) rfl ?_) | (refine wpl_storeW hE 3 rfl rfl rfl (xs := [.string ⟨#[]⟩, .bool false, .string ⟨#[]⟩]) rfl rfl Tryd.sizeOf41 rfl (by simp [Value.oneCell']) rfl ?_) | (refine wpl_storeW hE 4 rfl rfl rfl (xs := [.string ⟨#[]⟩, .bool false, .string ⟨#[]⟩]) rfl rfl Tryd.sizeOf41 rfl (by simp [Value.oneCell']) rfl ?_) | (refine wpl_storeW hE 5 rfl rfl rfl (xs := [.string ⟨#[]⟩, .bool false, .string ⟨#[]⟩]) rfl rfl Tryd.sizeOf41 rfl (by simp [Value.oneCell']) rfl ?_) | (refine wpl_storeW hE 6 rfl rfl rfl (xs := [.string ⟨#[]⟩, .bool false, .string ⟨#[]⟩]) rfl rfl Tryd.sizeOf41 rfl (by simp [Value.oneCell']) rfl ?_) | (refine wpl_storeW hE 7 rfl rfl rfl (xs := [.string ⟨#[]⟩, .bool false, .string ⟨#[]⟩]) rfl rfl Tryd.sizeOf41 rfl (by simp [Value.oneCell']) rfl ?_)); clear hE; intro w hE; simp only [List.set_cons_zero, List.set_cons_succ] at hE))
                refine bodyPost_ret (results_cell2 rfl hE 2 rfl rfl Tryd.isAgg41 Tryd.sizeOf41 rfl rfl) rfl ?_
                exact ⟨_, rfl, [_, _, _, _], by rw [HT.out]; rfl, hE⟩
              · have hneg : ¬ ((ki[m] : Int) < 0) := by omega
                generalize ki[m] = kx at *
                go_wp2_with (first
                  | go_skip
                  | ((with_reducible (show Go.wpList _ _ _ (Go.Oper.mk _ (.load 9 _) _ _ _ _ :: _) _ _)); refine wpl_run rfl (w' := wr) (v := .string ⟨nm.toArray⟩) (by simp only [execOp, Act.eval]; simp [Nn.out _ hE.tail.tail.tail.tail]) ?_)
                  | (go_at_call 38; refine (HNa.out _).mono ?_; rintro e w9 ⟨rfl, rfl⟩)
                  | ((with_reducible (show Go.wpList _ _ _ (Go.Oper.mk _ (.store 41 _ _) _ _ _ _ :: _) _ _)); (first | (refine wpl_storeW hE 0 rfl rfl rfl (xs := [.string ⟨#[]⟩, .bool false, .string ⟨#[]⟩]) rfl rfl Tryd.sizeOf41 rfl (by simp [Value.oneCell']) rfl ?_) | (refine wpl_storeW hE 1 rfl rfl rfl (xs := [.string ⟨#[]⟩, .bool false, .string ⟨#[]⟩]) rfl rfl Tryd.sizeOf41 rfl (by simp [Value.oneCell']) rfl ?_) | (refine wpl_storeW hE 2 rfl rfl rfl (xs := [.string ⟨#[]⟩, .bool false, .string ⟨#[]⟩]) rfl rfl Tryd.sizeOf41 rfl (by simp [Value.oneCell']) rfl ?_) | (refine wpl_storeW hE 3 rfl rfl rfl (xs := [.string ⟨#[]⟩, .bool false, .string ⟨#[]⟩]) rfl rfl Tryd.sizeOf41 rfl (by simp [Value.oneCell']) rfl ?_) | (refine wpl_storeW hE 4 rfl rfl rfl (xs := [.string ⟨#[]⟩, .bool false, .string ⟨#[]⟩]) rfl rfl Tryd.sizeOf41 rfl (by simp [Value.oneCell']) rfl ?_) | (refine wpl_storeW hE 5 rfl rfl rfl (xs := [.string ⟨#[]⟩, .bool false, .string ⟨#[]⟩]) rfl rfl Tryd.sizeOf41 rfl (by simp [Value.oneCell']) rfl ?_) | (refine wpl_storeW hE 6 rfl rfl rfl (xs := [.string ⟨#[]⟩, .bool false, .string ⟨#[]⟩]) rfl rfl Tryd.sizeOf41 rfl (by simp [Value.oneCell']) rfl ?_) | (refine wpl_storeW hE 7 rfl rfl rfl (xs := [.string ⟨#[]⟩, .bool false, .string ⟨#[]⟩]) rfl rfl Tryd.sizeOf41 rfl (by simp [Value.oneCell']) rfl ?_)); clear hE; intro w hE; simp only [List.set_cons_zero, List.set_cons_succ] at hE))
                refine bodyPost_ret (results_cell2 rfl hE 2 rfl rfl Tryd.isAgg41 Tryd.sizeOf41 rfl rfl) rfl ?_
                exact ⟨_, rfl, [_, _, _, _], by rw [HT.out]; rfl, hE⟩
            | true =>
              rw [hnm] at HNa
              have hne : (nm == []) = false := by
                have := (name_len hnm).1
                cases nm with
                | nil => simp at this
                | cons a b => rfl
              rw [hne] at hfo
              have hfk := HF.out hnm _ hfo
              clear HF HNo hfo
              rcases hfk with ⟨rfl, hno⟩ | ⟨i, hi, k2, rfl, hk2, hLi⟩
              · have HT := SL.hid (show atT 11 10 q t = (10, .zero) from by rw [HB2.out, hno])
                clear HB2 HG2 hnm hne hno
                go_wp2_with (first
                  | go_skip
                  | ((with_reducible (show Go.wpList _ _ _ (Go.Oper.mk _ (.load 9 _) _ _ _ _ :: _) _ _)); refine wpl_run rfl (w' := wr) (v := .string ⟨nm.toArray⟩) (by simp only [execOp, Act.eval]; simp [Nn.out _ hE.tail.tail.tail.tail]) ?_)
                  | (go_at_call 38; refine (HNa.out _).mono ?_; rintro e w9 ⟨rfl, rfl⟩)
                  | ((with_reducible (show Go.wpList _ _ _ (Go.Oper.mk _ (.store 41 _ _) _ _ _ _ :: _) _ _)); (first | (refine wpl_storeW hE 0 rfl rfl rfl (xs := [.string ⟨#[]⟩, .bool false, .string ⟨#[]⟩]) rfl rfl Tryd.sizeOf41 rfl (by simp [Value.oneCell']) rfl ?_) | (refine wpl_storeW hE 1 rfl rfl rfl (xs := [.string ⟨#[]⟩, .bool false, .string ⟨#[]⟩]) rfl rfl Tryd.sizeOf41 rfl (by simp [Value.oneCell']) rfl ?_) | (refine wpl_storeW hE 2 rfl rfl rfl (xs := [.string ⟨#[]⟩, .bool false, .string ⟨#[]⟩]) rfl rfl Tryd.sizeOf41 rfl (by simp [Value.oneCell']) rfl ?_) | (refine wpl_storeW hE 3 rfl rfl rfl (xs := [.string ⟨#[]⟩, .bool false, .string ⟨#[]⟩]) rfl rfl Tryd.sizeOf41 rfl (by simp [Value.oneCell']) rfl ?_) | (refine wpl_storeW hE 4 rfl rfl rfl (xs := [.string ⟨#[]⟩, .bool false, .string ⟨#[]⟩]) rfl rfl Tryd.sizeOf41 rfl (by simp [Value.oneCell']) rfl ?_) | (refine wpl_storeW hE 5 rfl rfl rfl (xs := [.string ⟨#[]⟩, .bool false, .string ⟨#[]⟩]) rfl rfl Tryd.sizeOf41 rfl (by simp [Value.oneCell']) rfl ?_) | (refine wpl_storeW hE 6 rfl rfl rfl (xs := [.string ⟨#[]⟩, .bool false, .string ⟨#[]⟩]) rfl rfl Tryd.sizeOf41 rfl (by simp [Value.oneCell']) rfl ?_) | (refine wpl_storeW hE 7 rfl rfl rfl (xs := [.string ⟨#[]⟩, .bool false, .string ⟨#[]⟩]) rfl rfl Tryd.sizeOf41 rfl (by simp [Value.oneCell']) rfl ?_)); clear hE; intro w hE; simp only [List.set_cons_zero, List.set_cons_succ] at hE))
                refine bodyPost_ret (results_cell2 rfl hE 2 rfl rfl Tryd.isAgg41 Tryd.sizeOf41 rfl rfl) rfl ?_
                exact ⟨_, rfl, [_, _, _, _], by rw [HT.out]; rfl, hE⟩
              · have HT := SL.hid (show atT 11 10 q t = atT 11 10 (q.drop (k + 1)) k2 from by rw [HB2.out, hk2])
                have HG3 := SL.hid (HG2.out k2 hk2)
                obtain ⟨b, off, rfl, hz⟩ := en_at (hk _ hE.tail.tail.tail.tail) hi
                clear hz
                have ld := show ∀ w, Ent l w → (Instr.loadAt 41 (.pointer (some ⟨b, off + i * 3, none⟩))).run Tryd.prog w = .ok (.agg #[.string ⟨tgt.toArray⟩, .bool k2.dir, .string ⟨k2.data.toArray⟩]) w from fun w h => by
                  have := (load_en (hk _ h) hi).1
                  rwa [hLi] at this
                have Ld := SL.hid ld
                have hiI : (i : Int) < (L.length : Int) := by omega
                have hneg : ¬ ((i : Int) < 0) := by omega
                clear HB2 HG2 hnm hne hk2 hLi ld hk hn
                go_wp2_with (first
                  | go_skip
                  | ((with_reducible (show Go.wpList _ _ _ (Go.Oper.mk _ (.load 9 _) _ _ _ _ :: _) _ _)); refine wpl_run rfl (w' := wr) (v := .string ⟨nm.toArray⟩) (by simp only [execOp, Act.eval]; simp [Nn.out _ hE.tail.tail.tail.tail]) ?_)
                  | (go_at_call 38; refine (HNa.out _).mono ?_; rintro e w9 ⟨rfl, rfl⟩)
                  | ((with_reducible (show Go.wpList _ _ _ (Go.Oper.mk _ (.load 41 _) _ _ _ _ :: _) _ _)); refine wpl_run rfl (w' := _) (v := .agg #[.string ⟨tgt.toArray⟩, .bool k2.dir, .string ⟨k2.data.toArray⟩]) (by simp only [execOp, Act.eval]; simp [Ld.out _ hE.tail.tail.tail.tail]; rfl) ?_)
                  | ((with_reducible (show Go.wpList _ _ _ (Go.Oper.mk _ (.load _ _) _ _ _ _ :: _) _ _)); (first | (refine wpl_load1 hE 0 rfl rfl rfl rfl (by simp [go_sem]) rfl ?_) | (refine wpl_load1 hE 1 rfl rfl rfl rfl (by simp [go_sem]) rfl ?_) | (refine wpl_load1 hE 2 rfl rfl rfl rfl (by simp [go_sem]) rfl ?_) | (refine wpl_load1 hE 3 rfl rfl rfl rfl (by simp [go_sem]) rfl ?_) | (refine wpl_load1 hE 4 rfl rfl rfl rfl (by simp [go_sem]) rfl ?_) | (refine wpl_load1 hE 5 rfl rfl rfl rfl (by simp [go_sem]) rfl ?_) | (refine wpl_load1 hE 6 rfl rfl rfl rfl (by simp [go_sem]) rfl ?_) | (refine wpl_load1 hE 7 rfl rfl rfl rfl (by simp [go_sem]) rfl ?_)))
                  | ((with_reducible (show Go.wpList _ _ _ (Go.Oper.mk _ (.store 41 _ _) _ _ _ _ :: _) _ _)); (first | (refine wpl_storeW hE 0 rfl rfl rfl (xs := [.string ⟨tgt.toArray⟩, .bool k2.dir, .string ⟨k2.data.toArray⟩]) rfl rfl Tryd.sizeOf41 rfl (by simp [Value.oneCell']) rfl ?_) | (refine wpl_storeW hE 1 rfl rfl rfl (xs := [.string ⟨tgt.toArray⟩, .bool k2.dir, .string ⟨k2.data.toArray⟩]) rfl rfl Tryd.sizeOf41 rfl (by simp [Value.oneCell']) rfl ?_) | (refine wpl_storeW hE 2 rfl rfl rfl (xs := [.string ⟨tgt.toArray⟩, .bool k2.dir, .string ⟨k2.data.toArray⟩]) rfl rfl Tryd.sizeOf41 rfl (by simp [Value.oneCell']) rfl ?_) | (refine wpl_storeW hE 3 rfl rfl rfl (xs := [.string ⟨tgt.toArray⟩, .bool k2.dir, .string ⟨k2.data.toArray⟩]) rfl rfl Tryd.sizeOf41 rfl (by simp [Value.oneCell']) rfl ?_) | (refine wpl_storeW hE 4 rfl rfl rfl (xs := [.string ⟨tgt.toArray⟩, .bool k2.dir, .string ⟨k2.data.toArray⟩]) rfl rfl Tryd.sizeOf41 rfl (by simp [Value.oneCell']) rfl ?_) | (refine wpl_storeW hE 5 rfl rfl rfl (xs := [.string ⟨tgt.toArray⟩, .bool k2.dir, .string ⟨k2.data.toArray⟩]) rfl rfl Tryd.sizeOf41 rfl (by simp [Value.oneCell']) rfl ?_) | (refine wpl_storeW hE 6 rfl rfl rfl (xs := [.string ⟨tgt.toArray⟩, .bool k2.dir, .string ⟨k2.data.toArray⟩]) rfl rfl Tryd.sizeOf41 rfl (by simp [Value.oneCell']) rfl ?_) | (refine wpl_storeW hE 7 rfl rfl rfl (xs := [.string ⟨tgt.toArray⟩, .bool k2.dir, .string ⟨k2.data.toArray⟩]) rfl rfl Tryd.sizeOf41 rfl (by simp [Value.oneCell']) rfl ?_)); clear hE; intro w hE; simp only [List.set_cons_zero, List.set_cons_succ] at hE))
                go_roundw
                case rel => exact ⟨k + 1, k2, hlt, by first | rfl | simp, HG3.out, HT.out, by rw [Htgt.out]; exact hE.tail⟩
                case measure => simp [intOf] <;> omega
    · obtain rfl : k = q.length := by omega
      rw [List.drop_length] at hB
      have HT := SL.hid (show atT 11 10 q t = (0, p) from hB)
      rw [List.take_length] at hpx
      have Hpx := SL.hid hpx
      clear hB hpx hg
      generalize hpd : p.dir = pd at *
      generalize hpb : p.data = pb at *
      have Hpd := SL.hid hpd
      have Hpb := SL.hid hpb
      clear hpd hpb
      go_wp2_with (first
        | go_skip
        | ((with_reducible (show Go.wpList _ _ _ (Go.Oper.mk _ (.load 41 _) _ _ _ _ :: _) _ _)); (first | (refine wpl_loadW hE 0 rfl rfl rfl rfl Tryd.isAgg41 Tryd.sizeOf41 rfl ?_) | (refine wpl_loadW hE 1 rfl rfl rfl rfl Tryd.isAgg41 Tryd.sizeOf41 rfl ?_) | (refine wpl_loadW hE 2 rfl rfl rfl rfl Tryd.isAgg41 Tryd.sizeOf41 rfl ?_) | (refine wpl_loadW hE 3 rfl rfl rfl rfl Tryd.isAgg41 Tryd.sizeOf41 rfl ?_) | (refine wpl_loadW hE 4 rfl rfl rfl rfl Tryd.isAgg41 Tryd.sizeOf41 rfl ?_) | (refine wpl_loadW hE 5 rfl rfl rfl rfl Tryd.isAgg41 Tryd.sizeOf41 rfl ?_) | (refine wpl_loadW hE 6 rfl rfl rfl rfl Tryd.isAgg41 Tryd.sizeOf41 rfl ?_) | (refine wpl_loadW hE 7 rfl rfl rfl rfl Tryd.isAgg41 Tryd.sizeOf41 rfl ?_)))
        | ((with_reducible (show Go.wpList _ _ _ (Go.Oper.mk _ (.store 41 _ _) _ _ _ _ :: _) _ _)); (first | (refine wpl_storeW hE 0 rfl rfl rfl (xs := [.string ⟨px.toArray⟩, .bool pd, .string ⟨pb.toArray⟩]) rfl rfl Tryd.sizeOf41 rfl (by simp [Value.oneCell']) rfl ?_) | (refine wpl_storeW hE 1 rfl rfl rfl (xs := [.string ⟨px.toArray⟩, .bool pd, .string ⟨pb.toArray⟩]) rfl rfl Tryd.sizeOf41 rfl (by simp [Value.oneCell']) rfl ?_) | (refine wpl_storeW hE 2 rfl rfl rfl (xs := [.string ⟨px.toArray⟩, .bool pd, .string ⟨pb.toArray⟩]) rfl rfl Tryd.sizeOf41 rfl (by simp [Value.oneCell']) rfl ?_) | (refine wpl_storeW hE 3 rfl rfl rfl (xs := [.string ⟨px.toArray⟩, .bool pd, .string ⟨pb.toArray⟩]) rfl rfl Tryd.sizeOf41 rfl (by simp [Value.oneCell']) rfl ?_) | (refine wpl_storeW hE 4 rfl rfl rfl (xs := [.string ⟨px.toArray⟩, .bool pd, .string ⟨pb.toArray⟩]) rfl rfl Tryd.sizeOf41 rfl (by simp [Value.oneCell']) rfl ?_) | (refine wpl_storeW hE 5 rfl rfl rfl (xs := [.string ⟨px.toArray⟩, .bool pd, .string ⟨pb.toArray⟩]) rfl rfl Tryd.sizeOf41 rfl (by simp [Value.oneCell']) rfl ?_) | (refine wpl_storeW hE 6 rfl rfl rfl (xs := [.string ⟨px.toArray⟩, .bool pd, .string ⟨pb.toArray⟩]) rfl rfl Tryd.sizeOf41 rfl (by simp [Value.oneCell']) rfl ?_) | (refine wpl_storeW hE 7 rfl rfl rfl (xs := [.string ⟨px.toArray⟩, .bool pd, .string ⟨pb.toArray⟩]) rfl rfl Tryd.sizeOf41 rfl (by simp [Value.oneCell']) rfl ?_)); clear hE; intro w hE; simp only [List.set_cons_zero, List.set_cons_succ] at hE))
      refine bodyPost_ret (results_cell2 rfl hE 1 rfl rfl Tryd.isAgg41 Tryd.sizeOf41 rfl rfl) rfl ?_
      exact ⟨_, rfl, [_, _, _], by rw [HT.out]; simp only [Hpx.out, Hpd.out, Hpb.out, if_true]; rfl, hE⟩
end Go.Proofs.YtjmllpgmbaoebaaDoor
namespace Go.Proofs.YtjmllpgmbaoebaaDoor
open Go.RowKit Go.SL

theorem eqInf (n : List UInt8) (d : Bool) (k : Int) (w : World) : (Op.equalIn 10000 47 (.agg #[.string ⟨n.toArray⟩, .bool d, .int .i64 k]) (.agg #[.string ⟨n.toArray⟩, .bool d, .int .i64 k])).run Tryd.prog w = .ok true w := by
  have h := run_equalIn_agg (P := Tryd.prog) (w := w) 9999 47 #[.string ⟨n.toArray⟩, .bool d, .int .i64 k] #[.string ⟨n.toArray⟩, .bool d, .int .i64 k] (by kernel_rfl) (by kernel_rfl)
  refine h.trans ?_
  simp [go_sem]
theorem inC_len (x : List UInt8 × Tr) : (inC x).length = 3 := rfl
theorem inC_flat_len (xs : List (List UInt8 × Tr)) : (xs.flatMap inC).length = xs.length * 3 := flatMap_len inC 3 inC_len xs
/-- what is told of a kid, read whole -/
theorem load_inf {ao : Option Addr} {c : Nat} {ks : List (List UInt8 × Tr)} {w : World} (hr : reads (.slice ao ks.length c) ks.length (ks.flatMap inC) w) {k : Nat} (hk : k < ks.length) :
    ∃ b off, ao = some ⟨b, off, none⟩ ∧ (Instr.loadAt 47 (.pointer (some ⟨b, off + k * 3, none⟩))).run Tryd.prog w = .ok (.agg #[.string ⟨ks[k].1.toArray⟩, .bool ks[k].2.dir, .int .i64 ks[k].2.data.length]) w := by
  obtain ⟨b, off, rfl, hc⟩ := reads_form hr (by omega) (by rw [inC_flat_len]; omega)
  refine ⟨b, off, rfl, atCells Tryd.isAgg47 Tryd.sizeOf47 (inC ks[k]) rfl (fun j v hv => ?_)⟩
  rw [Addr.add_lit, Nat.add_assoc]
  exact hc _ _ (flatMap_at inC 3 inC_len ks k j ks[k] v (List.getElem?_eq_getElem hk) hv)
theorem load_inf2 {b off c : Nat} {ks : List (List UInt8 × Tr)} {w : World} (hr : reads (.slice (some ⟨b, off, none⟩) ks.length c) ks.length (ks.flatMap inC) w) {k : Nat} (hk : k < ks.length) :
    (Instr.loadAt 47 (.pointer (some ⟨b, off + k * 3, none⟩))).run Tryd.prog w = .ok (.agg #[.string ⟨ks[k].1.toArray⟩, .bool ks[k].2.dir, .int .i64 ks[k].2.data.length]) w := by
  obtain ⟨b', o', e, h⟩ := load_inf hr hk
  cases e
  exact h
theorem cut_at (pre n : List UInt8) : (⟨(pre ++ n).toArray⟩ : ByteArray).extract pre.length (pre ++ n).length = ⟨n.toArray⟩ := by
  rw [extract_mk, List.drop_left, List.take_of_length_le (by simp)]
/-- what stands ahead of a kid's name in its path -/
theorem pre_of {q : List (List UInt8)} (h : q.all isName = true) : ∃ pre : List UInt8, (∀ n, joinP (q ++ [n]) = pre ++ n) ∧ ((decide ((0 : Int) < ((joinP q).length : Int)) = false ∧ (decide (0 < (joinP q).length) = false) ∧ (¬ 0 < (joinP q).length) ∧ pre.length = (joinP q).length) ∨ (decide ((0 : Int) < ((joinP q).length : Int)) = true ∧ (decide (0 < (joinP q).length) = true) ∧ (0 < (joinP q).length) ∧ pre.length = (joinP q).length + 1)) := by
  by_cases h0 : q = []
  · subst h0
    exact ⟨[], fun n => by rw [List.nil_append, joinP_one]; rfl, .inl ⟨rfl, rfl, Nat.lt_irrefl 0, rfl⟩⟩
  · have := joinP_ne h0 h
    have : 0 < (joinP q).length := List.length_pos_iff.2 this
    exact ⟨joinP q ++ [47], fun n => by rw [joinP_end h0]; simp, .inr ⟨decide_eq_true (by omega), decide_eq_true this, this, by simp⟩⟩
theorem wf_file {d : Nat} {t : Tr} (h : Tr.Wf d t) (hd : t.dir = false) : t.kids = [] := by
  cases d with
  | zero => exact h.1
  | succ d => exact h.1 hd
end Go.Proofs.YtjmllpgmbaoebaaDoor
namespace Go.SL
theorem post_mark2 {P : Program} {fn : Func} {R : Ending → World → Prop} {a : Act} {w : World} {D : Nat} {l : List HProp} (hd : a.defers = [{ target := .collected D, args := #[] }]) (hE : Ent (pt D (.deferred (some [])) :: l) w)
    (h : ∀ w', Ent (pt D (.deferred none) :: l) w' → ∃ v, (results fn a.tmps).run P w' = .ok v w' ∧ R (.returned v) w') : bodyPostM Fence.wide 0 P fn R .ret a w := by
  show LeavesInM Fence.wide 0 P fn a.tmps R a.defers .returning w
  rw [hd]
  refine ⟨by simp, .inl ⟨_, _, rfl, run_takeDeferred hE.head, ?_⟩⟩
  exact h _ (hE.setMap 0 (ob' := .deferred none) rfl)
/-- what a range over a function leaves behind, before and behind the function's end -/
def anyD (D : Nat) : HProp := ex fun z : { o : Obj // o = .deferred (some []) ∨ o = .deferred none } => [pt D z.1]
theorem anyD_some {D : Nat} {l : List HProp} {w : World} (h : Ent (pt D (.deferred (some [])) :: l) w) : Ent (anyD D :: l) w := Ent.pack (f := fun z : { o : Obj // o = .deferred (some []) ∨ o = .deferred none } => [pt D z.1]) ⟨_, .inl rfl⟩ h
theorem anyD_none {D : Nat} {l : List HProp} {w : World} (h : Ent (pt D (.deferred none) :: l) w) : Ent (anyD D :: l) w := Ent.pack (f := fun z : { o : Obj // o = .deferred (some []) ∨ o = .deferred none } => [pt D z.1]) ⟨_, .inr rfl⟩ h
theorem knows_anyD {D : Nat} {l : List HProp} {v : Value} {n : Nat} {xs : List Value} (h : Knows (pt D (.deferred (some [])) :: l) (reads v n xs)) : Knows (anyD D :: l) (reads v n xs) := by
  intro w hE
  obtain ⟨⟨o, ho⟩, hE⟩ := hE.unpack
  rcases ho with rfl | rfl
  · exact h w hE
  · have h2 := h _ (hE.setMap 0 (ob' := .deferred (some [])) rfl)
    have hD : w.heap[D]? = some (.deferred none) := hE.at 0 rfl
    obtain ⟨ao, c, e, h3, h4⟩ := h2
    refine ⟨ao, c, e, h3, fun ad had j u hu => ?_⟩
    have h5 := h4 ad had j u hu
    have hb : (ad.add j).block ≠ D := by
      intro hb
      have hlt : D < w.heap.size := (Array.getElem?_eq_some_iff.1 hD).1
      have e2 : ({ w with heap := w.heap.setIfInBounds D (.deferred (some [])) } : World).heap[(ad.add j).block]? = some (.deferred (some [])) := by
        rw [hb]
        simp [hlt]
      unfold World.cell? at h5
      rw [e2] at h5
      cases h5
    have e3 : ({ w with heap := w.heap.setIfInBounds D (.deferred (some [])) } : World).heap[(ad.add j).block]? = w.heap[(ad.add j).block]? := by
      simp [Array.getElem?_setIfInBounds, Ne.symm hb]
    unfold World.cell? at h5 ⊢
    rw [e3] at h5
    exact h5
end Go.SL
namespace Go.Proofs.YtjmllpgmbaoebaaDoor
open Go.RowKit Go.SL

set_option maxRecDepth 100000 in
theorem Build_all {es : List En} (hb : ∀ x ∈ es, x.path.length ≤ 1000000 ∧ x.data.length ≤ 1000000) {ao : Option Addr} {c : Nat} {l : List HProp} {w : World} (hk : Knows l (reads (.slice ao es.length c) es.length (es.flatMap enC))) (hE : Ent l w) :
    Calls Tryd.prog 10 #[.slice ao es.length c] w (Ret fun v w' => ∃ m kv, v = .tuple #[nodeV (buildT es).2 kv, .int .i64 (buildT es).1] ∧ Ent (m ++ l) w' ∧ KidsAt (m ++ l) kv (buildT es).2.kids) := by
  cases h64 : decide ((64 : Int) < (es.length : Int)) with
  | true =>
    have hT : buildT es = (6, .zero) := by rw [buildT, if_pos (by have := of_decide_eq_true h64; omega)]
    rw [hT]
    clear hb hk hT
    go_enter Tryd.func10, Tryd.ntmps10
    go_wp2_with (first
      | go_skip
      | ((with_reducible (show Go.wpList _ _ _ (Go.Oper.mk _ (.alloc _) _ _ _ _ :: _) _ _)); refine wpl_alloc hE rfl rfl (by simp [go_sem]; rfl) ?_; clear hE; intro b2 w hE; simp only [Act.eval, Act.put, List.setIfInBounds_toArray, List.set_cons_zero, List.set_cons_succ, getD_lit, List.getD_cons_succ, List.getD_cons_zero, Value.cells] at hE)
      | ((with_reducible (show Go.wpList _ _ _ (Go.Oper.mk _ (.store 28 _ _) _ _ _ _ :: _) _ _)); (first | (refine wpl_storeW hE 0 rfl rfl rfl (xs := [.bool false, .string ⟨#[]⟩, .slice none 0 0]) rfl rfl Tryd.sizeOf28 rfl (by simp [Value.oneCell']) rfl ?_) | (refine wpl_storeW hE 1 rfl rfl rfl (xs := [.bool false, .string ⟨#[]⟩, .slice none 0 0]) rfl rfl Tryd.sizeOf28 rfl (by simp [Value.oneCell']) rfl ?_) | (refine wpl_storeW hE 2 rfl rfl rfl (xs := [.bool false, .string ⟨#[]⟩, .slice none 0 0]) rfl rfl Tryd.sizeOf28 rfl (by simp [Value.oneCell']) rfl ?_) | (refine wpl_storeW hE 3 rfl rfl rfl (xs := [.bool false, .string ⟨#[]⟩, .slice none 0 0]) rfl rfl Tryd.sizeOf28 rfl (by simp [Value.oneCell']) rfl ?_) | (refine wpl_storeW hE 4 rfl rfl rfl (xs := [.bool false, .string ⟨#[]⟩, .slice none 0 0]) rfl rfl Tryd.sizeOf28 rfl (by simp [Value.oneCell']) rfl ?_) | (refine wpl_storeW hE 5 rfl rfl rfl (xs := [.bool false, .string ⟨#[]⟩, .slice none 0 0]) rfl rfl Tryd.sizeOf28 rfl (by simp [Value.oneCell']) rfl ?_) | (refine wpl_storeW hE 6 rfl rfl rfl (xs := [.bool false, .string ⟨#[]⟩, .slice none 0 0]) rfl rfl Tryd.sizeOf28 rfl (by simp [Value.oneCell']) rfl ?_) | (refine wpl_storeW hE 7 rfl rfl rfl (xs := [.bool false, .string ⟨#[]⟩, .slice none 0 0]) rfl rfl Tryd.sizeOf28 rfl (by simp [Value.oneCell']) rfl ?_)); clear hE; intro w hE; simp only [List.set_cons_zero, List.set_cons_succ] at hE))
    refine bodyPost_ret (results_cell2 rfl hE 0 rfl rfl Tryd.isAgg28 Tryd.sizeOf28 rfl rfl) rfl ?_
    exact ⟨_, rfl, [], .slice none 0 0, rfl, hE.tail, KidsAt.nil _⟩
  | false => exact Build_any (by have := of_decide_eq_false h64; omega) hb hk hE

def sufP (s : List UInt8) : Bool := Lib.hasSuffix s [10]
def trimP (s : List UInt8) : List UInt8 := Lib.trimSuffix s [10]
def okL (x : List UInt8) : Bool := (entryP x).2
def entL (x : List UInt8) : En := (entryP x).1
/-- the entries of a text -/
def parse (s : List UInt8) : Option (List En) := if s = [] then some [] else if sufP s = true ∧ (cutsN (trimP s)).all okL = true then some ((cutsN (trimP s)).map entL) else none
/-- the tree of a text, or why there is none -/
def takeP (s : List UInt8) : Int × Tr := match parse s with
  | none => (3, .zero)
  | some es => if (buildT es).1 ≠ 0 then ((buildT es).1, .zero) else if linesP (entT 6 [] (buildT es).2) = s then (0, (buildT es).2) else (3, .zero)
theorem entL_len (x : List UInt8) : (entL x).path.length ≤ x.length ∧ (entL x).data.length ≤ x.length := by
  unfold entL entryP
  have h1 := cutPx_len x [100, 32]
  have h2 := cutPx_len x [102, 32]
  have h3 := cutSp_len (cutPx x [102, 32])
  split
  · exact ⟨h1, by simp⟩
  · refine ⟨by simp only; omega, ?_⟩
    simp only
    cases h : unq (cutSp (cutPx x [102, 32])).2.1 with
    | none => simp
    | some b =>
      have := unq_iff.1 h
      have h4 := (quoteP_len b).1
      rw [← this] at h4
      simp only [Option.getD_some]
      omega
def TkPost (s : List UInt8) (l : List HProp) (v : Value) (w' : World) : Prop := ∃ (m : List HProp) (kv : Value), v = .tuple #[nodeV (takeP s).2 kv, .int .i64 (takeP s).1] ∧ Ent (m ++ l) w' ∧ KidsAt (m ++ l) kv (takeP s).2.kids
end Go.Proofs.YtjmllpgmbaoebaaDoor
namespace Go.Proofs.YtjmllpgmbaoebaaDoor
open Go.RowKit Go.SL

attribute [local go_sem] Oper.semAt_some wide_fn wide_depth
def anyN (b : Nat) : HProp := ex fun z : Value × Value × Value => [pt b (.cells #[z.1, z.2.1, z.2.2] 28)]
theorem anyN_of {b : Nat} {x y z : Value} {l : List HProp} {w : World} (h : Ent (pt b (.cells #[x, y, z] 28) :: l) w) : Ent (anyN b :: l) w := Ent.pack (f := fun z : Value × Value × Value => [pt b (.cells #[z.1, z.2.1, z.2.2] 28)]) (x, y, z) h
theorem KidsAt.monoR {l m : List HProp} (h : ∀ v n xs, Knows l (reads v n xs) → Knows m (reads v n xs)) {v : Value} {ks : List (List UInt8 × Tr)} (hk : KidsAt l v ks) : KidsAt m v ks := by
  induction hk with
  | mk ao c ks vs hc hl hr _ ih => exact .mk ao c ks vs hc hl (h _ _ _ hr) ih
def tkI (s : List UInt8) (b1 b2 b4 b5 : Nat) (g0 : Bool) (l : List HProp) (pre : List (List UInt8)) : List HProp :=
  pt b1 (.cells #[.string ⟨s.toArray⟩] 9) :: pt b2 (.cells #[.bool false, .string ⟨#[]⟩, .slice none 0 0] 28) :: pt b5 (.cells #[.bool g0] 4) ::
    (ex fun z : { _z : Option Addr × Nat // pre.all okL = true } => [pt b4 (.cells #[.slice z.1.1 (pre.map entL).length z.1.2] 22), rowEn z.1.1 z.1.2 (pre.map entL)]) :: l
def tkX (s : List UInt8) (b1 b2 b5 : Nat) (l : List HProp) (c : Code) (pre : List (List UInt8)) : List HProp :=
  pt b1 (.cells #[.string ⟨s.toArray⟩] 9) :: pt b2 (.cells #[.bool false, .string ⟨#[]⟩, .slice none 0 0] 28) :: pt b5 (.cells #[.bool false] 4) ::
    (ex fun _ : c = .exit 0 ∧ pre.all okL = false => []) :: l
theorem takeP_none {s : List UInt8} (h : parse s = none) : takeP s = (3, .zero) := by rw [takeP, h]
/-- when no tree was made -/
theorem TkPost.bad {s : List UInt8} {er : Int} {l : List HProp} {w : World} (h : takeP s = (er, .zero)) (hE : Ent l w) : TkPost s l (.tuple #[.agg #[.bool false, .string ⟨#[]⟩, .slice none 0 0], .int .i64 er]) w := by
  refine ⟨[], .slice none 0 0, ?_, hE, ?_⟩
  · rw [h]; rfl
  · rw [h]; exact KidsAt.nil _
set_option maxRecDepth 100000 in
set_option maxHeartbeats 8000000 in
attribute [-go_sem] Instr.loadAt in
theorem Take_some {s : List UInt8} (hs : s.length ≤ 10000000) (hx : ∀ x ∈ cutsN (trimP s), x.length ≤ 1000000) (h0 : s ≠ []) {l : List HProp} {w : World} (hE : Ent l w) :
    Calls Tryd.prog 26 #[.string ⟨s.toArray⟩] w (Ret (TkPost s l)) := by
  have hne : (s == []) = false := by simpa using h0
  have HS := SL.hid (sufx_any s [10] (by omega))
  have HT := SL.hid (trim_any s [10] (by omega))
  have htl : (trimP s).length ≤ 10000000 := by
    unfold trimP Lib.trimSuffix
    split
    · rw [List.length_take]; omega
    · omega
  change Hid (∀ w, Calls _ _ _ w fun e w' => e = .returned (.bool (sufP s)) ∧ w' = w) at HS
  change Hid (∀ w, Calls _ _ _ w fun e w' => e = .returned (.string ⟨(trimP s).toArray⟩) ∧ w' = w) at HT
  have Hps := SL.hid (show parse s = if sufP s = true ∧ (cutsN (trimP s)).all okL = true then some ((cutsN (trimP s)).map entL) else none by rw [parse, if_neg h0])
  have Hx := SL.hid hx
  clear hx
  generalize trimP s = p at *
  generalize sufP s = g0 at *
  refine calls_of_marks Tryd.func26 rfl ?_
  simp only [Tryd.ntmps26, List.size_toArray, List.length_cons, List.length_nil, Nat.reduceAdd, Nat.reduceSub, Array.replicate_succ, Array.replicate_zero, List.push_toArray, List.append_toArray, List.nil_append, List.cons_append]
  go_wp2_with (first
    | go_skip
    | ((with_reducible (show Go.wpList _ _ _ (Go.Oper.mk _ (.box _ _) _ _ _ _ :: _) _ _)); refine wpl_box hE rfl rfl rfl ?_; clear hE; intro b1 w hE1)
    | ((with_reducible (show Go.wpList _ _ _ (Go.Oper.mk _ (.alloc 28) _ _ _ _ :: _) _ _)); refine wpl_alloc hE1 rfl rfl (by simp [go_sem]; rfl) ?_; clear hE1; intro b2 w hE; simp only [Act.eval, Act.put, List.setIfInBounds_toArray, List.set_cons_zero, List.set_cons_succ, getD_lit, List.getD_cons_succ, List.getD_cons_zero, Value.cells] at hE))
  go_step3
  go_wp2_with (first
    | go_skip
    | ((with_reducible (show Go.wpList _ _ _ (Go.Oper.mk _ (.alloc 22) _ _ _ _ :: _) _ _)); refine wpl_alloc hE rfl rfl (by simp [go_sem]; rfl) ?_; clear hE; intro b4 w hE; simp only [Act.eval, Act.put, List.setIfInBounds_toArray, List.set_cons_zero, List.set_cons_succ, getD_lit, List.getD_cons_succ, List.getD_cons_zero, Value.cells] at hE)
    | ((with_reducible (show Go.wpList _ _ _ (Go.Oper.mk _ (.alloc 4) _ _ _ _ :: _) _ _)); refine wpl_alloc hE rfl rfl (by simp [go_sem]; rfl) ?_; clear hE; intro b5 w hE; simp only [Act.eval, Act.put, List.setIfInBounds_toArray, List.set_cons_zero, List.set_cons_succ, getD_lit, List.getD_cons_succ, List.getD_cons_zero, Value.cells] at hE)
    | ((with_reducible (show Go.wpList _ _ _ (Go.Oper.mk _ (.load _ _) _ _ _ _ :: _) _ _)); refine wpl_load1 hE 2 rfl rfl rfl rfl (by simp [go_sem]) rfl ?_)
    | ((with_reducible (show Go.wpList _ _ _ (Go.Oper.mk _ (.store _ _ _) _ _ _ _ :: _) _ _)); (first | (refine wpl_st1 hE 0 rfl rfl rfl rfl rfl (by first | (simp [go_sem]; done) | (simp [go_sem]; rfl)) rfl rfl (by simp) ?_) | (refine wpl_st1 hE 1 rfl rfl rfl rfl rfl (by first | (simp [go_sem]; done) | (simp [go_sem]; rfl)) rfl rfl (by simp) ?_) | (refine wpl_st1 hE 2 rfl rfl rfl rfl rfl (by first | (simp [go_sem]; done) | (simp [go_sem]; rfl)) rfl rfl (by simp) ?_) | (refine wpl_st1 hE 3 rfl rfl rfl rfl rfl (by first | (simp [go_sem]; done) | (simp [go_sem]; rfl)) rfl rfl (by simp) ?_) | (refine wpl_st1 hE 4 rfl rfl rfl rfl rfl (by first | (simp [go_sem]; done) | (simp [go_sem]; rfl)) rfl rfl (by simp) ?_) | (refine wpl_st1 hE 5 rfl rfl rfl rfl rfl (by first | (simp [go_sem]; done) | (simp [go_sem]; rfl)) rfl rfl (by simp) ?_) | (refine wpl_st1 hE 6 rfl rfl rfl rfl rfl (by first | (simp [go_sem]; done) | (simp [go_sem]; rfl)) rfl rfl (by simp) ?_) | (refine wpl_st1 hE 7 rfl rfl rfl rfl rfl (by first | (simp [go_sem]; done) | (simp [go_sem]; rfl)) rfl rfl (by simp) ?_)); clear hE; intro w hE; simp only [Act.eval, getD_lit, List.getD_cons_succ, List.getD_cons_zero, List.set_cons_zero, List.set_cons_succ] at hE)
    | (go_at_call 42; refine (HS.out _).mono ?_; clear HS; rintro e w2 ⟨rfl, rfl⟩))
  go_step3
  go_wp2_with (first
    | go_skip
    | ((with_reducible (show Go.wpList _ _ _ (Go.Oper.mk _ (.load _ _) _ _ _ _ :: _) _ _)); refine wpl_load1 hE 3 rfl rfl rfl rfl (by simp [go_sem]) rfl ?_)
    | (go_at_call 44; refine (HT.out _).mono ?_; clear HT; rintro e w2 ⟨rfl, rfl⟩)
    | (go_at_call 43; refine (SplitSeqN_any p hE).mono ?_; clear hE; rintro e w2 ⟨v, rfl, bs, bsep, bsave, rfl, hE4⟩))
  refine wpIn_wide.1 (wpIn_rangeSL (gf := 71) rfl (enters_of Tryd.func71 (by kernel_rfl) rfl) (splitN_iter p (by omega) bs bsep bsave) (fun _ => rfl) (tkI s b1 b2 b4 b5 g0 l) (tkX s b1 b2 b5 l) ?e0
    (fun x => { tmps := #[.string ⟨s.toArray⟩, .pointer (some ⟨b1, 0, none⟩), .pointer (some ⟨b2, 0, none⟩), .int .i64 0, .pointer (some ⟨b4, 0, none⟩), .pointer (some ⟨b5, 0, none⟩), .string ⟨x.toArray⟩, undef, undef, undef, undef, .string ⟨s.toArray⟩, .bool false, .bool false, .string ⟨s.toArray⟩, .bool g0, .bool g0, .string ⟨s.toArray⟩, .string ⟨p.toArray⟩, .func (.func 71) #[] #[.pointer (some ⟨bsep, 0, none⟩), .pointer (some ⟨bs, 0, none⟩), .pointer (some ⟨bsave, 0, none⟩)], .string ⟨x.toArray⟩, undef, undef, undef, undef, undef, undef, undef, undef, undef, undef, undef, undef, undef, undef, undef, undef, undef, undef, undef, undef, undef, undef, undef, undef, undef, undef, undef, undef, undef, undef, undef], defers := [] }) ?assign ?body ?done ?stop)
  case e0 =>
    have h := ((hE4.nil 41 3).front 5 rfl)
    have h2 := Ent.pack (f := fun z : { _z : Option Addr × Nat // ([] : List (List UInt8)).all okL = true } => [pt b4 (.cells #[.slice z.1.1 (([] : List (List UInt8)).map entL).length z.1.2] 22), rowEn z.1.1 z.1.2 (([] : List (List UInt8)).map entL)]) ⟨(none, 0), rfl⟩ h
    exact (((((h2.front 4 rfl).front 5 rfl).front 6 rfl).front 6 rfl).front 6 rfl).front 6 rfl
  case assign =>
    intro lp x W K hK
    gi_wp2
    exact hK
  case body =>
    intro lp pre x W L hpre hW
    obtain ⟨⟨⟨ao, c⟩, hall⟩, hW'⟩ := (hW.front 3 rfl).unpack
    have Hall := SL.hid hall
    replace hW : Ent (pt b4 (.cells #[.slice ao (pre.map entL).length c] 22) :: rowEn ao c (pre.map entL) :: pt b1 (.cells #[.string ⟨s.toArray⟩] 9) :: pt b2 (.cells #[.bool false, .string ⟨#[]⟩, .slice none 0 0] 28) :: pt b5 (.cells #[.bool g0] 4) :: (l ++ L)) W := hW'
    clear hW' hall
    have hxm : x ∈ cutsN p := by
      obtain ⟨t, ht⟩ := hpre
      rw [← ht]; simp
    have hxl := (cutsN_len p).2 x hxm
    have hpl : (pre.map entL).length ≤ 10000001 := by
      have h1 := hpre.length_le
      have h2 := (cutsN_len p).1
      simp at h1 ⊢
      omega
    clear hpre hxm
    have HX := SL.hid (fun (L : List HProp) (w : World) (h : Ent L w) => entryOf_any (x := x) (by omega) h)
    have Hok := SL.hid (show okL x = (entryP x).2 from rfl)
    have Hen := SL.hid (show entL x = (entryP x).1 from rfl)
    have e1 : ((pre ++ [x]).map entL).length = (pre.map entL).length + 1 := by simp
    have e2 : ((pre ++ [x]).map entL).flatMap enC = (pre.map entL).flatMap enC ++ enC (entryP x).1 := by simp [Hen.out]
    have E1 := SL.hid e1
    have E2 := SL.hid e2
    clear e1 e2
    simp only [enV] at HX
    generalize (entryP x).1 = y at *
    obtain ⟨yp, yd, yb⟩ := y
    simp only at HX
    generalize hq : (entryP x).2 = ok at *
    clear hq
    cases ok with
    | false =>
      gi_wp2_with (first
        | (refine wplIn_one rfl rfl rfl (by intro c h; cases h) (by rintro ⟨_, _, h⟩; exact h) ?_; (with_reducible (show Go.wpList _ _ _ (Go.Oper.mk _ (.load _ _) _ _ _ _ :: _) _ _)); refine wpl_load1 hW 2 rfl rfl rfl rfl (by simp [go_sem]) rfl ?_; refine wplIn_nil ?_)
        | (gi_at_call 45; refine (CallsIn.inRound lp (callsIn_wide.2 (HX.out _ _ hW))).mono ?_; clear hW; rintro e w' ⟨v, rfl, rfl, hW⟩)
        | (refine wplIn_one rfl rfl rfl (by intro c h; cases h) (by rintro ⟨_, _, h⟩; exact h) ?_; (with_reducible (show Go.wpList _ _ _ (Go.Oper.mk _ (.alloc _) _ _ _ _ :: _) _ _)); refine wpl_alloc hW rfl rfl (by simp [go_sem]; rfl) ?_; clear hW; intro b7 w hW; simp only [Act.eval, Act.put, List.setIfInBounds_toArray, List.set_cons_zero, List.set_cons_succ, getD_lit, List.getD_cons_succ, List.getD_cons_zero, Value.cells] at hW; refine wplIn_nil ?_)
        | (refine wplIn_one rfl rfl rfl (by intro c h; cases h) (by rintro ⟨_, _, h⟩; exact h) ?_; (with_reducible (show Go.wpList _ _ _ (Go.Oper.mk _ (.store 41 _ _) _ _ _ _ :: _) _ _)); refine wpl_storeW hW 0 rfl rfl rfl (xs := [.string ⟨yp.toArray⟩, .bool yd, .string ⟨yb.toArray⟩]) rfl rfl Tryd.sizeOf41 rfl (by simp [Value.oneCell']) rfl ?_; clear hW; intro w hW; simp only [List.set_cons_zero] at hW; refine wplIn_nil ?_)
        | (refine wplIn_one rfl rfl rfl (by intro c h; cases h) (by rintro ⟨_, _, h⟩; exact h) ?_; (with_reducible (show Go.wpList _ _ _ (Go.Oper.mk _ (.store 4 _ _) _ _ _ _ :: _) _ _)); refine wpl_st1 hW 5 rfl rfl rfl rfl rfl (by first | (simp [go_sem]; done) | (simp [go_sem]; rfl)) rfl rfl (by simp) ?_; clear hW; intro w hW; simp only [Act.eval, getD_lit, List.getD_cons_succ, List.getD_cons_zero, List.set_cons_zero, List.set_cons_succ] at hW; refine wplIn_nil ?_))
      have hF := hW.tail.tail.tail
      have hG := Ent.pack (f := fun _ : Code.exit 0 = .exit 0 ∧ (pre ++ [x]).all okL = false => []) ⟨rfl, List.all_eq_false.2 ⟨x, by simp, by simp [Hok.out]⟩⟩ hF
      exact ((hG.front 3 rfl).front 3 rfl).front 3 rfl
    | true =>
      gi_wp2_with (first
        | (refine wplIn_one rfl rfl rfl (by intro c h; cases h) (by rintro ⟨_, _, h⟩; exact h) ?_; (with_reducible (show Go.wpList _ _ _ (Go.Oper.mk _ (.load 9 _) _ _ _ _ :: _) _ _)); refine wpl_load1 hW 2 rfl rfl rfl rfl (by simp [go_sem]) rfl ?_; refine wplIn_nil ?_)
        | (gi_at_call 45; refine (CallsIn.inRound lp (callsIn_wide.2 (HX.out _ _ hW))).mono ?_; clear hW; rintro e w' ⟨v, rfl, rfl, hW⟩)
        | (refine wplIn_one rfl rfl rfl (by intro c h; cases h) (by rintro ⟨_, _, h⟩; exact h) ?_; (with_reducible (show Go.wpList _ _ _ (Go.Oper.mk _ (.alloc _) _ _ _ _ :: _) _ _)); refine wpl_alloc hW rfl rfl (by simp [go_sem]; rfl) ?_; clear hW; intro b7 w hW; simp only [Act.eval, Act.put, List.setIfInBounds_toArray, List.set_cons_zero, List.set_cons_succ, getD_lit, List.getD_cons_succ, List.getD_cons_zero, Value.cells] at hW; refine wplIn_nil ?_)
        | (refine wplIn_one rfl rfl rfl (by intro c h; cases h) (by rintro ⟨_, _, h⟩; exact h) ?_; (with_reducible (show Go.wpList _ _ _ (Go.Oper.mk _ (.store 41 _ _) _ _ _ _ :: _) _ _)); refine wpl_storeW hW 0 rfl rfl rfl (xs := [.string ⟨yp.toArray⟩, .bool yd, .string ⟨yb.toArray⟩]) rfl rfl Tryd.sizeOf41 rfl (by simp [Value.oneCell']) rfl ?_; clear hW; intro w hW; simp only [List.set_cons_zero] at hW; refine wplIn_nil ?_)
        | (refine wplIn_one rfl rfl rfl (by intro c h; cases h) (by rintro ⟨_, _, h⟩; exact h) ?_; (with_reducible (show Go.wpList _ _ _ (Go.Oper.mk _ (.load 22 _) _ _ _ _ :: _) _ _)); refine wpl_load1 hW 1 rfl rfl rfl rfl (by simp [go_sem]) rfl ?_; refine wplIn_nil ?_)
        | (refine wplIn_one rfl rfl rfl (by intro c h; cases h) (by rintro ⟨_, _, h⟩; exact h) ?_; (with_reducible (show Go.wpList _ _ _ (Go.Oper.mk _ (.load 41 _) _ _ _ _ :: _) _ _)); refine wpl_loadW hW 0 rfl rfl rfl rfl Tryd.isAgg41 Tryd.sizeOf41 rfl ?_; refine wplIn_nil ?_)
        | (refine wplIn_one rfl rfl rfl (by intro c h; cases h) (by rintro ⟨_, _, h⟩; exact h) ?_; (with_reducible (show Go.wpList _ _ _ (Go.Oper.mk _ (.buildSlice _ _ _) _ _ _ _ :: _) _ _)); refine wpl_build1 hW rfl rfl (xs := enC ⟨yp, yd, yb⟩) rfl Tryd.underlying22 zs_en Tryd.sizeOf41 (by decide) (by decide) rfl ?_; clear hW; intro b9 w3 hW; refine wplIn_nil ?_)
        | (refine wplIn_one rfl rfl rfl (by intro c h; cases h) (by rintro ⟨_, _, h⟩; exact h) ?_; (with_reducible (show Go.wpList _ _ _ (Go.Oper.mk _ (.call { callee := .builtin .append, args := _, argTypes := _ }) _ _ _ _ :: _) _ _)); refine wpl_appendG hW 3 rfl rfl rfl rfl rfl Tryd.underlying22 info_en (by decide) (m := 1) (news := enC ⟨yp, yd, yb⟩) (reads_pt hW 0 rfl (off := 0) (fun j u hu => by rw [Nat.zero_add, List.getElem?_toArray]; exact hu)) rfl (enC_one _) (by omega) (by omega) ?_; clear hW; intro ao' c' w6 hW; simp only [List.set_cons_zero, List.set_cons_succ] at hW; refine wplIn_nil ?_)
        | (refine wplIn_one rfl rfl rfl (by intro c h; cases h) (by rintro ⟨_, _, h⟩; exact h) ?_; (with_reducible (show Go.wpList _ _ _ (Go.Oper.mk _ (.store 22 _ _) _ _ _ _ :: _) _ _)); refine wpl_st1 hW 2 rfl rfl rfl rfl rfl (by first | (simp [go_sem]; done) | (simp [go_sem]; rfl)) rfl rfl (by simp) ?_; clear hW; intro w hW; simp only [Act.eval, getD_lit, List.getD_cons_succ, List.getD_cons_zero, List.set_cons_zero, List.set_cons_succ] at hW; refine wplIn_nil ?_))
      have hF := hW.tail.tail
      have hG := Ent.pack (f := fun z : { _z : Option Addr × Nat // (pre ++ [x]).all okL = true } => [pt b4 (.cells #[.slice z.1.1 ((pre ++ [x]).map entL).length z.1.2] 22), rowEn z.1.1 z.1.2 ((pre ++ [x]).map entL)]) ⟨(ao', c'), by rw [List.all_append, Hall.out]; simp [Hok.out]⟩ (by simp only [rowEn, E1.out, E2.out]; exact hF)
      exact ((hG.front 3 rfl).front 3 rfl).front 3 rfl
  case done =>
    intro D W hW
    obtain ⟨⟨⟨ao, c⟩, hall⟩, hW'⟩ := (hW.front 4 rfl).unpack
    cases g0 with
    | false =>
      have R := SL.hid (takeP_none (show parse s = none by rw [Hps.out, if_neg (by simp)]))
      replace hW : Ent (pt D (.deferred (some [])) :: pt b1 (.cells #[.string ⟨s.toArray⟩] 9) :: pt b2 (.cells #[.bool false, .string ⟨#[]⟩, .slice none 0 0] 28) :: pt b5 (.cells #[.bool false] 4) :: l) W := hW'.tail.tail
      clear hW' hall
      go_wp2_with (first
        | go_skip
        | ((with_reducible (show Go.wpList _ _ _ (Go.Oper.mk _ (.load _ _) _ _ _ _ :: _) _ _)); refine wpl_load1 hW 3 rfl rfl rfl rfl (by simp [go_sem]) rfl ?_)
        | ((with_reducible (show Go.wpList _ _ _ (Go.Oper.mk _ (.store 28 _ _) _ _ _ _ :: _) _ _)); refine wpl_storeW hW 2 rfl rfl rfl (xs := [.bool false, .string ⟨#[]⟩, .slice none 0 0]) rfl rfl Tryd.sizeOf28 rfl (by simp [Value.oneCell']) rfl ?_; clear hW; intro w hW; simp only [List.set_cons_zero, List.set_cons_succ] at hW))
      refine post_mark rfl hW (fun w' hw' => ⟨_, results_cell2 (v := .int .i64 3) rfl hw' 1 rfl rfl Tryd.isAgg28 Tryd.sizeOf28 rfl rfl, _, rfl, TkPost.bad R.out hw'.tail.tail.tail⟩)
    | true =>
      obtain ⟨es, hes⟩ : ∃ es, es = (cutsN p).map entL := ⟨_, rfl⟩
      have Hes := SL.hid (show parse s = some es by rw [Hps.out, if_pos ⟨rfl, hall⟩, hes])
      have hbe : ∀ x ∈ es, x.path.length ≤ 1000000 ∧ x.data.length ≤ 1000000 := by
        intro y hy
        rw [hes] at hy
        obtain ⟨x, hx1, rfl⟩ := List.mem_map.1 hy
        have h1 := Hx.out x hx1
        have h2 := entL_len x
        omega
      rw [← hes] at hW'
      replace hW : Ent (pt b4 (.cells #[.slice ao es.length c] 22) :: rowEn ao c es :: pt D (.deferred (some [])) :: pt b1 (.cells #[.string ⟨s.toArray⟩] 9) :: pt b2 (.cells #[.bool false, .string ⟨#[]⟩, .slice none 0 0] 28) :: pt b5 (.cells #[.bool true] 4) :: l) W := hW'
      clear hW' hall hes
      have hE : Ent (pt D (.deferred (some [])) :: anyN b2 :: pt b4 (.cells #[.slice ao es.length c] 22) :: rowEn ao c es :: pt b1 (.cells #[.string ⟨s.toArray⟩] 9) :: pt b5 (.cells #[.bool true] 4) :: l) W := ((anyN_of (hW.front 4 rfl)).front 3 rfl)
      clear hW
      obtain ⟨er, t, hbt⟩ : ∃ er t, buildT es = (er, t) := ⟨_, _, rfl⟩
      have HBu := SL.hid (fun (w : World) (h : Ent (pt D (.deferred (some [])) :: anyN b2 :: pt b4 (.cells #[.slice ao es.length c] 22) :: rowEn ao c es :: pt b1 (.cells #[.string ⟨s.toArray⟩] 9) :: pt b5 (.cells #[.bool true] 4) :: l) w) =>
        show Calls Tryd.prog 10 #[.slice ao es.length c] w (Ret fun v w' => ∃ m a c1, v = .tuple #[.agg #[.bool t.dir, .string ⟨t.data.toArray⟩, .slice a t.kids.length c1], .int .i64 er] ∧ Ent (pt D (.deferred (some [])) :: anyN b2 :: pt b4 (.cells #[.slice ao es.length c] 22) :: rowEn ao c es :: pt b1 (.cells #[.string ⟨s.toArray⟩] 9) :: pt b5 (.cells #[.bool true] 4) :: (m ++ l)) w' ∧ KidsAt (pt D (.deferred (some [])) :: anyN b2 :: pt b4 (.cells #[.slice ao es.length c] 22) :: rowEn ao c es :: pt b1 (.cells #[.string ⟨s.toArray⟩] 9) :: pt b5 (.cells #[.bool true] 4) :: (m ++ l)) (.slice a t.kids.length c1) t.kids) from by
          refine (Build_all hbe (fun w h => reads_row h 3 rfl) h).mono ?_
          rintro e w' ⟨v, rfl, m, kv, h, hE, hK⟩
          rw [hbt] at h hK
          obtain ⟨a, c', rfl⟩ := hK.slice
          exact ⟨_, rfl, m, a, c', h, Ent.swap (a := m) (b := [pt D (.deferred (some [])), anyN b2, pt b4 (.cells #[.slice ao es.length c] 22), rowEn ao c es, pt b1 (.cells #[.string ⟨s.toArray⟩] 9), pt b5 (.cells #[.bool true] 4)]) hE, hK.mono (fun p hp W hW => hp W (Ent.swap (a := [pt D (.deferred (some [])), anyN b2, pt b4 (.cells #[.slice ao es.length c] 22), rowEn ao c es, pt b1 (.cells #[.string ⟨s.toArray⟩] 9), pt b5 (.cells #[.bool true] 4)]) (b := m) hW))⟩)
      have Tok := SL.hid True.intro
      cases he : (er == 0) with
      | false =>
        have hne2 : (er != 0) = true := by rw [bne, he]; rfl
        have R := SL.hid (show takeP s = (er, .zero) by
          rw [takeP, Hes.out]
          simp only
          rw [hbt, if_pos (by simpa using he)])
        clear he hbt hbe
        go_wp2_with (first
          | go_skip
          | ((with_reducible (show Go.wpList _ _ _ (Go.Oper.mk _ (.load 4 _) _ _ _ _ :: _) _ _)); refine wpl_load1 hE 5 rfl rfl rfl rfl (by simp [go_sem]) rfl ?_)
          | ((with_reducible (show Go.wpList _ _ _ (Go.Oper.mk _ (.load 22 _) _ _ _ _ :: _) _ _)); refine wpl_load1 hE 2 rfl rfl rfl rfl (by simp [go_sem]) rfl ?_)
          | (go_at_call 10; refine (HBu.out _ hE).mono ?_; clear hE; rintro e w3 ⟨v, rfl, m, a, c1, rfl, hE, hK⟩)
          | ((with_reducible (show Go.wpList _ _ _ (Go.Oper.mk _ (.alloc 28) _ _ _ _ :: _) _ _)); refine wpl_alloc hE rfl rfl (by simp [go_sem]; rfl) ?_; clear hE; intro b9 w hE; simp only [Act.eval, Act.put, List.setIfInBounds_toArray, List.set_cons_zero, List.set_cons_succ, getD_lit, List.getD_cons_succ, List.getD_cons_zero, Value.cells] at hE)
          | ((with_reducible (show Go.wpList _ _ _ (Go.Oper.mk _ (.store 28 (.tmp 9) _) _ _ _ _ :: _) _ _)); refine wpl_storeW hE 0 rfl rfl rfl (xs := [.bool t.dir, .string ⟨t.data.toArray⟩, .slice a t.kids.length c1]) rfl rfl Tryd.sizeOf28 rfl (by simp [Value.oneCell']) rfl ?_; clear hE; intro w hE; simp only [List.set_cons_zero] at hE)
          | ((with_reducible (show Go.wpList _ _ _ (Go.Oper.mk _ (.store 28 (.tmp 2) _) _ _ _ _ :: _) _ _)); obtain ⟨⟨z0, z1, z2⟩, hE2⟩ := (hE.front 2 rfl).unpack; clear hE; refine wpl_storeW hE2 0 rfl rfl rfl (xs := [.bool false, .string ⟨#[]⟩, .slice none 0 0]) rfl rfl Tryd.sizeOf28 rfl (by simp [Value.oneCell']) rfl ?_; clear hE2; intro w hE; simp only [List.set_cons_zero, List.cons_append, List.nil_append] at hE))
        refine post_mark rfl (hE.front 2 rfl) (fun w' hw' => ⟨_, results_cell2 (v := .int .i64 er) rfl hw' 0 rfl rfl Tryd.isAgg28 Tryd.sizeOf28 rfl rfl, _, rfl, TkPost.bad R.out hw'.tail.tail.tail.tail.tail.tail.drop⟩)
      | true =>
        have he0 : er = 0 := by simpa using he
        subst he0
        have hG := ((build_same es).2 (by rw [hbt])).1
        rw [((build_same es).2 (by rw [hbt])).2, hbt] at hG
        have h64 : es.length ≤ 64 := by
          rcases Nat.lt_or_ge 64 es.length with h | h
          · rw [buildT, if_pos h] at hbt; cases hbt
          · exact h
        have hw := hG.2.1
        have hal := all_perm hG
        have HPu := SL.hid (fun (b9 : Nat) (m : List HProp) (a : Option Addr) (c1 : Nat) (w : World) (hK : KidsAt (pt D (.deferred (some [])) :: anyN b2 :: pt b4 (.cells #[.slice ao es.length c] 22) :: rowEn ao c es :: pt b1 (.cells #[.string ⟨s.toArray⟩] 9) :: pt b5 (.cells #[.bool true] 4) :: (m ++ l)) (.slice a t.kids.length c1) t.kids) (h : Ent (pt b9 (.cells #[.bool t.dir, .string ⟨t.data.toArray⟩, .slice a t.kids.length c1] 28) :: pt D (.deferred (some [])) :: anyN b2 :: pt b4 (.cells #[.slice ao es.length c] 22) :: rowEn ao c es :: pt b1 (.cells #[.string ⟨s.toArray⟩] 9) :: pt b5 (.cells #[.bool true] 4) :: (m ++ l)) w) =>
          show Calls Tryd.prog 27 #[.agg #[.bool t.dir, .string ⟨t.data.toArray⟩, .slice a t.kids.length c1]] w (Ret fun v w' => v = .string ⟨(linesP (entT 6 [] t)).toArray⟩ ∧ ∃ m5, Ent (pt b9 (.cells #[.bool t.dir, .string ⟨t.data.toArray⟩, .slice a t.kids.length c1] 28) :: pt D (.deferred (some [])) :: anyN b2 :: pt b4 (.cells #[.slice ao es.length c] 22) :: rowEn ao c es :: pt b1 (.cells #[.string ⟨s.toArray⟩] 9) :: pt b5 (.cells #[.bool true] 4) :: (m5 ++ (m ++ l))) w') from by
            refine (Put_any (t := t) hw (by decide) (hK.suf (List.suffix_cons _ _)) (by rw [hal.length_eq]; omega) (fun x hx => hbe x (hal.mem_iff.1 hx)) h).mono ?_
            rintro e w' ⟨v, rfl, rfl, m5, hE⟩
            exact ⟨_, rfl, rfl, m5, Ent.swap (a := m5) (b := pt b9 (.cells #[.bool t.dir, .string ⟨t.data.toArray⟩, .slice a t.kids.length c1] 28) :: [pt D (.deferred (some [])), anyN b2, pt b4 (.cells #[.slice ao es.length c] 22), rowEn ao c es, pt b1 (.cells #[.string ⟨s.toArray⟩] 9), pt b5 (.cells #[.bool true] 4)]) hE⟩)
        have Htk := SL.hid (show takeP s = if linesP (entT 6 [] t) = s then (0, t) else (3, .zero) by
          rw [takeP, Hes.out]
          simp only
          rw [hbt, if_neg (by simp)])
        clear he hbt hbe hG h64 hw hal
        generalize linesP (entT 6 [] t) = LP at *
        go_wp2_with (first
          | go_skip
          | ((with_reducible (show Go.wpList _ _ _ (Go.Oper.mk _ (.load 4 _) _ _ _ _ :: _) _ _)); refine wpl_load1 hE 5 rfl rfl rfl rfl (by simp [go_sem]) rfl ?_)
          | ((with_reducible (show Go.wpList _ _ _ (Go.Oper.mk _ (.load 22 _) _ _ _ _ :: _) _ _)); refine wpl_load1 hE 2 rfl rfl rfl rfl (by simp [go_sem]) rfl ?_)
          | (go_at_call 10; refine (HBu.out _ hE).mono ?_; clear hE; rintro e w3 ⟨v, rfl, m, a, c1, rfl, hE, hK⟩)
          | ((with_reducible (show Go.wpList _ _ _ (Go.Oper.mk _ (.alloc 28) _ _ _ _ :: _) _ _)); refine wpl_alloc hE rfl rfl (by simp [go_sem]; rfl) ?_; clear hE; intro b9 w hE; simp only [Act.eval, Act.put, List.setIfInBounds_toArray, List.set_cons_zero, List.set_cons_succ, getD_lit, List.getD_cons_succ, List.getD_cons_zero, Value.cells] at hE)
          | ((with_reducible (show Go.wpList _ _ _ (Go.Oper.mk _ (.store 28 (.tmp 9) _) _ _ _ _ :: _) _ _)); refine wpl_storeW hE 0 rfl rfl rfl (xs := [.bool t.dir, .string ⟨t.data.toArray⟩, .slice a t.kids.length c1]) rfl rfl Tryd.sizeOf28 rfl (by simp [Value.oneCell']) rfl ?_; clear hE; intro w hE; simp only [List.set_cons_zero] at hE))
        have HP := SL.hid (fun (w : World) (h : Ent (pt b9 (.cells #[.bool t.dir, .string ⟨t.data.toArray⟩, .slice a t.kids.length c1] 28) :: pt D (.deferred (some [])) :: anyN b2 :: pt b4 (.cells #[.slice ao es.length c] 22) :: rowEn ao c es :: pt b1 (.cells #[.string ⟨s.toArray⟩] 9) :: pt b5 (.cells #[.bool true] 4) :: (m ++ l)) w) => HPu.out b9 m a c1 w hK h)
        clear HBu HPu
        cases heq : (LP == s) with
        | true =>
          have R := SL.hid (show takeP s = (0, t) by rw [Htk.out, if_pos (by simpa using heq)])
          refine wp_onlyN ?_
          refine wp_region_held_drew (S := (fun w' => ((Instr.loadAt 28 (.pointer (some ⟨b9, 0, none⟩))).run Tryd.prog w' = .ok (.agg [.bool t.dir, .string ⟨t.data.toArray⟩, .slice a t.kids.length c1].toArray) w') ∧ ((Instr.loadAt 9 (.pointer (some ⟨b1, 0, none⟩))).run Tryd.prog w' = .ok (.string ⟨s.toArray⟩) w'))) (by kernel_rfl) ⟨(atWm hE.drew (by repeat (first | exact List.Mem.head _ | refine List.Mem.tail _ ?_)) Tryd.isAgg28 Tryd.sizeOf28 rfl), (atVm hE.drew (by repeat (first | exact List.Mem.head _ | refine List.Mem.tail _ ?_)) (by simp [go_sem]) rfl)⟩ (fun hS => ?_)
          refine takeW 0 ⟨some 46, .load 28 (.tmp 9), 28, "manifest.go:112", #[], none⟩ ?_ (.inl ⟨by rfl, ?_⟩) hS ?_
          rotate_left
          · (intro w hSw; (try dsimp only at hSw); go_simp; (try with_reducible rfl))
          try simp only [Act.put, sb, s0, sz]
          refine takeW 2 ⟨some 48, .load 9 (.tmp 1), 9, "manifest.go:112", #[], none⟩ ?_ (.inl ⟨by rfl, ?_⟩) hS ?_
          rotate_left
          · (intro w hSw; (try dsimp only at hSw); go_simp; (try with_reducible rfl))
          try simp only [Act.put, sb, s0, sz]
          refine wpAnyH_ready (rs := [1]) (by kernel_rfl) (by simp) ?_
          refine (AllReadyH.cons (o := { dst := some 47, op := Go.Op.call { callee := Go.Callee.value (Go.Operand.func 27), args := #[Go.Operand.tmp 46], argTypes := #[28] }, type := 9, pos := "manifest.go:112", after := #[{ on := 0, ground := Go.Ground.data }], guard := none }) rfl (fun K hK => ?_) AllReadyH.nil)
          (go_simp; refine (HP.out _ hE.drew).mono ?_; rintro e w5 ⟨v, rfl, rfl, m5, hP⟩)
          refine hK.out _ _ ⟨(atWm hP (by repeat (first | exact List.Mem.head _ | refine List.Mem.tail _ ?_)) Tryd.isAgg28 Tryd.sizeOf28 rfl), (atVm hP (by repeat (first | exact List.Mem.head _ | refine List.Mem.tail _ ?_)) (by simp [go_sem]) rfl)⟩ (fun hS => ?_)
          clear hK K
          try simp only [Act.put, sb, s0, sz]
          refine takeW 3 ⟨some 49, .binOp .neq 9 (.tmp 47) (.tmp 48) 9, 4, "manifest.go:112", #[⟨1, .data⟩, ⟨2, .data⟩], none⟩ ?_ (.inl ⟨by rfl, ?_⟩) hS ?_
          rotate_left
          · (intro w hSw; (try dsimp only at hSw); go_simp; (try with_reducible rfl))
          try simp only [Act.put, sb, s0, sz]
          refine wpAnyH_done (by kernel_rfl) ?_ _
          all_goals
            refine onlyN_n ?_
            clear hS
            replace hE := hP
            clear hP
            go_wp2_with (first
              | go_skip
              | ((with_reducible (show Go.wpList _ _ _ (Go.Oper.mk _ (.load 28 _) _ _ _ _ :: _) _ _)); refine wpl_loadW hE 0 rfl rfl rfl rfl Tryd.isAgg28 Tryd.sizeOf28 rfl ?_)
              | ((with_reducible (show Go.wpList _ _ _ (Go.Oper.mk _ (.store 28 (.tmp 2) _) _ _ _ _ :: _) _ _)); obtain ⟨⟨z0, z1, z2⟩, hE2⟩ := (hE.front 2 rfl).unpack; clear hE; refine wpl_storeW hE2 0 rfl rfl rfl (xs := [.bool t.dir, .string ⟨t.data.toArray⟩, .slice a t.kids.length c1]) rfl rfl Tryd.sizeOf28 rfl (by simp [Value.oneCell']) rfl ?_; clear hE2; intro w hE; simp only [List.set_cons_zero, List.cons_append, List.nil_append] at hE))
            refine post_mark2 rfl (hE.front 2 rfl) (fun w' hw' => ⟨_, results_cell2 (v := .int .i64 0) rfl hw' 1 rfl rfl Tryd.isAgg28 Tryd.sizeOf28 rfl rfl, _, rfl, ?_⟩)
            refine ⟨anyD D :: anyN b2 :: pt b9 (.cells #[.bool t.dir, .string ⟨t.data.toArray⟩, .slice a t.kids.length c1] 28) :: pt b4 (.cells #[.slice ao es.length c] 22) :: rowEn ao c es :: pt b1 (.cells #[.string ⟨s.toArray⟩] 9) :: pt b5 (.cells #[.bool true] 4) :: (m5 ++ m), .slice a t.kids.length c1, by rw [R.out]; rfl, ?_, ?_⟩
            · have h1 := (anyD_none hw').front 1 rfl
              have h2 := (anyN_of h1).front 1 rfl
              simp only [List.append_assoc, List.cons_append]
              exact h2
            · rw [R.out]
              refine KidsAt.mono (fun p hp W hW => hp W ?_) (KidsAt.monoR (fun v n xs h => knows_anyD h) hK)
              simp only [List.append_assoc, List.cons_append] at hW
              exact (Ent.swap (a := [anyD D, anyN b2, pt b4 (.cells #[.slice ao es.length c] 22), rowEn ao c es, pt b1 (.cells #[.string ⟨s.toArray⟩] 9), pt b5 (.cells #[.bool true] 4)]) (b := m5) ((hW.front 2 rfl).tail)).drop
        | false =>
          have R := SL.hid (show takeP s = (3, .zero) by rw [Htk.out, if_neg (by simpa using heq)])
          refine wp_onlyN ?_
          refine wp_region_held_drew (S := (fun w' => ((Instr.loadAt 28 (.pointer (some ⟨b9, 0, none⟩))).run Tryd.prog w' = .ok (.agg [.bool t.dir, .string ⟨t.data.toArray⟩, .slice a t.kids.length c1].toArray) w') ∧ ((Instr.loadAt 9 (.pointer (some ⟨b1, 0, none⟩))).run Tryd.prog w' = .ok (.string ⟨s.toArray⟩) w'))) (by kernel_rfl) ⟨(atWm hE.drew (by repeat (first | exact List.Mem.head _ | refine List.Mem.tail _ ?_)) Tryd.isAgg28 Tryd.sizeOf28 rfl), (atVm hE.drew (by repeat (first | exact List.Mem.head _ | refine List.Mem.tail _ ?_)) (by simp [go_sem]) rfl)⟩ (fun hS => ?_)
          refine takeW 0 ⟨some 46, .load 28 (.tmp 9), 28, "manifest.go:112", #[], none⟩ ?_ (.inl ⟨by rfl, ?_⟩) hS ?_
          rotate_left
          · (intro w hSw; (try dsimp only at hSw); go_simp; (try with_reducible rfl))
          try simp only [Act.put, sb, s0, sz]
          refine takeW 2 ⟨some 48, .load 9 (.tmp 1), 9, "manifest.go:112", #[], none⟩ ?_ (.inl ⟨by rfl, ?_⟩) hS ?_
          rotate_left
          · (intro w hSw; (try dsimp only at hSw); go_simp; (try with_reducible rfl))
          try simp only [Act.put, sb, s0, sz]
          refine wpAnyH_ready (rs := [1]) (by kernel_rfl) (by simp) ?_
          refine (AllReadyH.cons (o := { dst := some 47, op := Go.Op.call { callee := Go.Callee.value (Go.Operand.func 27), args := #[Go.Operand.tmp 46], argTypes := #[28] }, type := 9, pos := "manifest.go:112", after := #[{ on := 0, ground := Go.Ground.data }], guard := none }) rfl (fun K hK => ?_) AllReadyH.nil)
          (go_simp; refine (HP.out _ hE.drew).mono ?_; rintro e w5 ⟨v, rfl, rfl, m5, hP⟩)
          refine hK.out _ _ ⟨(atWm hP (by repeat (first | exact List.Mem.head _ | refine List.Mem.tail _ ?_)) Tryd.isAgg28 Tryd.sizeOf28 rfl), (atVm hP (by repeat (first | exact List.Mem.head _ | refine List.Mem.tail _ ?_)) (by simp [go_sem]) rfl)⟩ (fun hS => ?_)
          clear hK K
          try simp only [Act.put, sb, s0, sz]
          refine takeW 3 ⟨some 49, .binOp .neq 9 (.tmp 47) (.tmp 48) 9, 4, "manifest.go:112", #[⟨1, .data⟩, ⟨2, .data⟩], none⟩ ?_ (.inl ⟨by rfl, ?_⟩) hS ?_
          rotate_left
          · (intro w hSw; (try dsimp only at hSw); go_simp; (try with_reducible rfl))
          try simp only [Act.put, sb, s0, sz]
          refine wpAnyH_done (by kernel_rfl) ?_ _
          all_goals
            refine onlyN_n ?_
            clear hS
            replace hE := hP
            clear hP
            go_wp2_with (first
              | go_skip
              | ((with_reducible (show Go.wpList _ _ _ (Go.Oper.mk _ (.store 28 (.tmp 2) _) _ _ _ _ :: _) _ _)); obtain ⟨⟨z0, z1, z2⟩, hE2⟩ := (hE.front 2 rfl).unpack; clear hE; refine wpl_storeW hE2 0 rfl rfl rfl (xs := [.bool false, .string ⟨#[]⟩, .slice none 0 0]) rfl rfl Tryd.sizeOf28 rfl (by simp [Value.oneCell']) rfl ?_; clear hE2; intro w hE; simp only [List.set_cons_zero, List.cons_append, List.nil_append] at hE))
            refine post_mark rfl (hE.front 2 rfl) (fun w' hw' => ⟨_, results_cell2 (v := .int .i64 3) rfl hw' 0 rfl rfl Tryd.isAgg28 Tryd.sizeOf28 rfl rfl, _, rfl, TkPost.bad R.out hw'.tail.tail.tail.tail.tail.tail.drop.drop⟩)
  case stop =>
    intro D c pre W hpre hW
    obtain ⟨⟨rfl, hbad⟩, hW'⟩ := (hW.front 4 rfl).unpack
    have R := SL.hid (takeP_none (show parse s = none by
      rw [Hps.out, if_neg]
      rintro ⟨_, h⟩
      obtain ⟨t, ht⟩ := hpre
      rw [← ht, List.all_append, hbad] at h
      cases h))
    replace hW : Ent (pt D (.deferred (some [])) :: pt b1 (.cells #[.string ⟨s.toArray⟩] 9) :: pt b2 (.cells #[.bool false, .string ⟨#[]⟩, .slice none 0 0] 28) :: pt b5 (.cells #[.bool false] 4) :: l) W := hW'
    clear hW' hbad hpre
    refine wpIn_wide.2 ?_
    go_wp2_with (first
      | go_skip
      | ((with_reducible (show Go.wpList _ _ _ (Go.Oper.mk _ (.load _ _) _ _ _ _ :: _) _ _)); refine wpl_load1 hW 3 rfl rfl rfl rfl (by simp [go_sem]) rfl ?_)
      | ((with_reducible (show Go.wpList _ _ _ (Go.Oper.mk _ (.store 28 _ _) _ _ _ _ :: _) _ _)); refine wpl_storeW hW 2 rfl rfl rfl (xs := [.bool false, .string ⟨#[]⟩, .slice none 0 0]) rfl rfl Tryd.sizeOf28 rfl (by simp [Value.oneCell']) rfl ?_; clear hW; intro w hW; simp only [List.set_cons_zero, List.set_cons_succ] at hW))
    refine post_mark rfl hW (fun w' hw' => ⟨_, results_cell2 (v := .int .i64 3) rfl hw' 1 rfl rfl Tryd.isAgg28 Tryd.sizeOf28 rfl rfl, _, rfl, TkPost.bad R.out hw'.tail.tail.tail⟩)
end Go.Proofs.YtjmllpgmbaoebaaDoor
namespace Go.Proofs.YtjmllpgmbaoebaaDoor
open Go.RowKit Go.SL

attribute [local go_sem] Oper.semAt_some wide_fn wide_depth
def tkI0 (s : List UInt8) (b1 b2 b4 b5 : Nat) (l : List HProp) (pre : List (List UInt8)) : List HProp :=
  pt b1 (.cells #[.string ⟨s.toArray⟩] 9) :: pt b2 (.cells #[.bool false, .string ⟨#[]⟩, .slice none 0 0] 28) :: pt b5 (.cells #[.bool true] 4) :: pt b4 (.cells #[.slice none 0 0] 22) :: (ex fun _ : pre = [] => []) :: l
def tkX0 (s : List UInt8) (b1 b2 b4 b5 : Nat) (l : List HProp) (c : Code) (_ : List (List UInt8)) : List HProp :=
  pt b1 (.cells #[.string ⟨s.toArray⟩] 9) :: pt b2 (.cells #[.bool false, .string ⟨#[]⟩, .slice none 0 0] 28) :: pt b5 (.cells #[.bool true] 4) :: pt b4 (.cells #[.slice none 0 0] 22) :: (ex fun _ : c = .exit 0 => []) :: l
set_option maxRecDepth 100000 in
set_option maxHeartbeats 8000000 in
attribute [-go_sem] Instr.loadAt in
theorem Take_none {s : List UInt8} (hs : s.length ≤ 10000000) (h0 : s = []) {l : List HProp} {w : World} (hE : Ent l w) :
    Calls Tryd.prog 26 #[.string ⟨s.toArray⟩] w (Ret (TkPost s l)) := by
  have hne : (s == []) = true := by simpa using h0
  have HT := SL.hid (trim_any s [10] (by omega))
  have htl : (trimP s).length ≤ 10000000 := by
    unfold trimP Lib.trimSuffix
    split
    · rw [List.length_take]; omega
    · omega
  change Hid (∀ w, Calls _ _ _ w fun e w' => e = .returned (.string ⟨(trimP s).toArray⟩) ∧ w' = w) at HT
  have Hps := SL.hid (show parse s = some [] by rw [parse, if_pos h0])
  have Hcu := SL.hid (show cutsN (trimP s) = [[]] by rw [h0]; decide)
  clear h0
  generalize trimP s = p at *
  refine calls_of_marks Tryd.func26 rfl ?_
  simp only [Tryd.ntmps26, List.size_toArray, List.length_cons, List.length_nil, Nat.reduceAdd, Nat.reduceSub, Array.replicate_succ, Array.replicate_zero, List.push_toArray, List.append_toArray, List.nil_append, List.cons_append]
  go_wp2_with (first
    | go_skip
    | ((with_reducible (show Go.wpList _ _ _ (Go.Oper.mk _ (.box _ _) _ _ _ _ :: _) _ _)); refine wpl_box hE rfl rfl rfl ?_; clear hE; intro b1 w hE1)
    | ((with_reducible (show Go.wpList _ _ _ (Go.Oper.mk _ (.alloc 28) _ _ _ _ :: _) _ _)); refine wpl_alloc hE1 rfl rfl (by simp [go_sem]; rfl) ?_; clear hE1; intro b2 w hE; simp only [Act.eval, Act.put, List.setIfInBounds_toArray, List.set_cons_zero, List.set_cons_succ, getD_lit, List.getD_cons_succ, List.getD_cons_zero, Value.cells] at hE))
  go_step3
  go_wp2_with (first
    | go_skip
    | ((with_reducible (show Go.wpList _ _ _ (Go.Oper.mk _ (.alloc 22) _ _ _ _ :: _) _ _)); refine wpl_alloc hE rfl rfl (by simp [go_sem]; rfl) ?_; clear hE; intro b4 w hE; simp only [Act.eval, Act.put, List.setIfInBounds_toArray, List.set_cons_zero, List.set_cons_succ, getD_lit, List.getD_cons_succ, List.getD_cons_zero, Value.cells] at hE)
    | ((with_reducible (show Go.wpList _ _ _ (Go.Oper.mk _ (.alloc 4) _ _ _ _ :: _) _ _)); refine wpl_alloc hE rfl rfl (by simp [go_sem]; rfl) ?_; clear hE; intro b5 w hE; simp only [Act.eval, Act.put, List.setIfInBounds_toArray, List.set_cons_zero, List.set_cons_succ, getD_lit, List.getD_cons_succ, List.getD_cons_zero, Value.cells] at hE)
    | ((with_reducible (show Go.wpList _ _ _ (Go.Oper.mk _ (.load _ _) _ _ _ _ :: _) _ _)); refine wpl_load1 hE 2 rfl rfl rfl rfl (by simp [go_sem]) rfl ?_)
    | ((with_reducible (show Go.wpList _ _ _ (Go.Oper.mk _ (.store _ _ _) _ _ _ _ :: _) _ _)); (first | (refine wpl_st1 hE 0 rfl rfl rfl rfl rfl (by first | (simp [go_sem]; done) | (simp [go_sem]; rfl)) rfl rfl (by simp) ?_) | (refine wpl_st1 hE 1 rfl rfl rfl rfl rfl (by first | (simp [go_sem]; done) | (simp [go_sem]; rfl)) rfl rfl (by simp) ?_) | (refine wpl_st1 hE 2 rfl rfl rfl rfl rfl (by first | (simp [go_sem]; done) | (simp [go_sem]; rfl)) rfl rfl (by simp) ?_) | (refine wpl_st1 hE 3 rfl rfl rfl rfl rfl (by first | (simp [go_sem]; done) | (simp [go_sem]; rfl)) rfl rfl (by simp) ?_) | (refine wpl_st1 hE 4 rfl rfl rfl rfl rfl (by first | (simp [go_sem]; done) | (simp [go_sem]; rfl)) rfl rfl (by simp) ?_) | (refine wpl_st1 hE 5 rfl rfl rfl rfl rfl (by first | (simp [go_sem]; done) | (simp [go_sem]; rfl)) rfl rfl (by simp) ?_) | (refine wpl_st1 hE 6 rfl rfl rfl rfl rfl (by first | (simp [go_sem]; done) | (simp [go_sem]; rfl)) rfl rfl (by simp) ?_) | (refine wpl_st1 hE 7 rfl rfl rfl rfl rfl (by first | (simp [go_sem]; done) | (simp [go_sem]; rfl)) rfl rfl (by simp) ?_)); clear hE; intro w hE; simp only [Act.eval, getD_lit, List.getD_cons_succ, List.getD_cons_zero, List.set_cons_zero, List.set_cons_succ] at hE)
    | go_skip)
  go_step3
  go_wp2_with (first
    | go_skip
    | ((with_reducible (show Go.wpList _ _ _ (Go.Oper.mk _ (.load _ _) _ _ _ _ :: _) _ _)); refine wpl_load1 hE 3 rfl rfl rfl rfl (by simp [go_sem]) rfl ?_)
    | (go_at_call 44; refine (HT.out _).mono ?_; clear HT; rintro e w2 ⟨rfl, rfl⟩)
    | (go_at_call 43; refine (SplitSeqN_any p hE).mono ?_; clear hE; rintro e w2 ⟨v, rfl, bs, bsep, bsave, rfl, hE4⟩))
  refine wpIn_wide.1 (wpIn_rangeSL (gf := 71) rfl (enters_of Tryd.func71 (by kernel_rfl) rfl) (splitN_iter p (by omega) bs bsep bsave) (fun _ => rfl) (tkI0 s b1 b2 b4 b5 l) (tkX0 s b1 b2 b4 b5 l) ?e0
    (fun x => { tmps := #[.string ⟨s.toArray⟩, .pointer (some ⟨b1, 0, none⟩), .pointer (some ⟨b2, 0, none⟩), .int .i64 0, .pointer (some ⟨b4, 0, none⟩), .pointer (some ⟨b5, 0, none⟩), .string ⟨x.toArray⟩, undef, undef, undef, undef, .string ⟨s.toArray⟩, .bool true, .bool true, undef, undef, .bool true, .string ⟨s.toArray⟩, .string ⟨p.toArray⟩, .func (.func 71) #[] #[.pointer (some ⟨bsep, 0, none⟩), .pointer (some ⟨bs, 0, none⟩), .pointer (some ⟨bsave, 0, none⟩)], .string ⟨x.toArray⟩, undef, undef, undef, undef, undef, undef, undef, undef, undef, undef, undef, undef, undef, undef, undef, undef, undef, undef, undef, undef, undef, undef, undef, undef, undef, undef, undef, undef, undef, undef, undef], defers := [] }) ?assign ?body ?done ?stop)
  case e0 =>
    have h2 := Ent.pack (f := fun _ : ([] : List (List UInt8)) = [] => []) rfl hE4
    exact ((((((h2.front 5 rfl).front 5 rfl).front 6 rfl).front 7 rfl).front 7 rfl).front 7 rfl).front 7 rfl
  case assign =>
    intro lp x W K hK
    gi_wp2
    exact hK
  case body =>
    intro lp pre x W L hpre hW
    obtain ⟨hpn, hW'⟩ := (hW.front 4 rfl).unpack
    subst hpn
    replace hW : Ent (pt b1 (.cells #[.string ⟨s.toArray⟩] 9) :: pt b2 (.cells #[.bool false, .string ⟨#[]⟩, .slice none 0 0] 28) :: pt b5 (.cells #[.bool true] 4) :: pt b4 (.cells #[.slice none 0 0] 22) :: (l ++ L)) W := hW'
    clear hW'
    gi_wp2_with (first
      | (refine wplIn_one rfl rfl rfl (by intro c h; cases h) (by rintro ⟨_, _, h⟩; exact h) ?_; (with_reducible (show Go.wpList _ _ _ (Go.Oper.mk _ (.load _ _) _ _ _ _ :: _) _ _)); refine wpl_load1 hW 0 rfl rfl rfl rfl (by simp [go_sem]) rfl ?_; refine wplIn_nil ?_))
    have hG := Ent.pack (f := fun _ : Code.exit 0 = .exit 0 => []) rfl hW
    exact (((hG.front 4 rfl).front 4 rfl).front 4 rfl).front 4 rfl
  case done =>
    intro D W hW
    obtain ⟨hpn, _⟩ := (hW.front 5 rfl).unpack
    rw [Hcu.out] at hpn
    cases hpn
  case stop =>
    intro D c pre W hpre hW
    obtain ⟨hc0, hW'⟩ := (hW.front 5 rfl).unpack
    subst hc0
    clear hpre hW
    obtain ⟨ao, c, es, hes, hW⟩ : ∃ ao c es, es = ([] : List En) ∧ Ent (pt b4 (.cells #[.slice ao es.length c] 22) :: rowEn ao c es :: pt D (.deferred (some [])) :: pt b1 (.cells #[.string ⟨s.toArray⟩] 9) :: pt b2 (.cells #[.bool false, .string ⟨#[]⟩, .slice none 0 0] 28) :: pt b5 (.cells #[.bool true] 4) :: l) W := ⟨none, 0, [], rfl, ((hW'.front 4 rfl).nil 41 3).front 1 rfl⟩
    clear hW'
    have Hes := SL.hid (show parse s = some es by rw [Hps.out, hes])
    have hbe : ∀ x ∈ es, x.path.length ≤ 1000000 ∧ x.data.length ≤ 1000000 := by rw [hes]; intro x hx; cases hx
    clear hes
    refine wpIn_wide.2 ?_
    have hE : Ent (pt D (.deferred (some [])) :: anyN b2 :: pt b4 (.cells #[.slice ao es.length c] 22) :: rowEn ao c es :: pt b1 (.cells #[.string ⟨s.toArray⟩] 9) :: pt b5 (.cells #[.bool true] 4) :: l) W := ((anyN_of (hW.front 4 rfl)).front 3 rfl)
    clear hW
    obtain ⟨er, t, hbt⟩ : ∃ er t, buildT es = (er, t) := ⟨_, _, rfl⟩
    have HBu := SL.hid (fun (w : World) (h : Ent (pt D (.deferred (some [])) :: anyN b2 :: pt b4 (.cells #[.slice ao es.length c] 22) :: rowEn ao c es :: pt b1 (.cells #[.string ⟨s.toArray⟩] 9) :: pt b5 (.cells #[.bool true] 4) :: l) w) =>
      show Calls Tryd.prog 10 #[.slice ao es.length c] w (Ret fun v w' => ∃ m a c1, v = .tuple #[.agg #[.bool t.dir, .string ⟨t.data.toArray⟩, .slice a t.kids.length c1], .int .i64 er] ∧ Ent (pt D (.deferred (some [])) :: anyN b2 :: pt b4 (.cells #[.slice ao es.length c] 22) :: rowEn ao c es :: pt b1 (.cells #[.string ⟨s.toArray⟩] 9) :: pt b5 (.cells #[.bool true] 4) :: (m ++ l)) w' ∧ KidsAt (pt D (.deferred (some [])) :: anyN b2 :: pt b4 (.cells #[.slice ao es.length c] 22) :: rowEn ao c es :: pt b1 (.cells #[.string ⟨s.toArray⟩] 9) :: pt b5 (.cells #[.bool true] 4) :: (m ++ l)) (.slice a t.kids.length c1) t.kids) from by
        refine (Build_all hbe (fun w h => reads_row h 3 rfl) h).mono ?_
        rintro e w' ⟨v, rfl, m, kv, h, hE, hK⟩
        rw [hbt] at h hK
        obtain ⟨a, c', rfl⟩ := hK.slice
        exact ⟨_, rfl, m, a, c', h, Ent.swap (a := m) (b := [pt D (.deferred (some [])), anyN b2, pt b4 (.cells #[.slice ao es.length c] 22), rowEn ao c es, pt b1 (.cells #[.string ⟨s.toArray⟩] 9), pt b5 (.cells #[.bool true] 4)]) hE, hK.mono (fun p hp W hW => hp W (Ent.swap (a := [pt D (.deferred (some [])), anyN b2, pt b4 (.cells #[.slice ao es.length c] 22), rowEn ao c es, pt b1 (.cells #[.string ⟨s.toArray⟩] 9), pt b5 (.cells #[.bool true] 4)]) (b := m) hW))⟩)
    have Tok := SL.hid True.intro
    cases he : (er == 0) with
    | false =>
      have hne2 : (er != 0) = true := by rw [bne, he]; rfl
      have R := SL.hid (show takeP s = (er, .zero) by
        rw [takeP, Hes.out]
        simp only
        rw [hbt, if_pos (by simpa using he)])
      clear he hbt hbe
      go_wp2_with (first
        | go_skip
        | ((with_reducible (show Go.wpList _ _ _ (Go.Oper.mk _ (.load 4 _) _ _ _ _ :: _) _ _)); refine wpl_load1 hE 5 rfl rfl rfl rfl (by simp [go_sem]) rfl ?_)
        | ((with_reducible (show Go.wpList _ _ _ (Go.Oper.mk _ (.load 22 _) _ _ _ _ :: _) _ _)); refine wpl_load1 hE 2 rfl rfl rfl rfl (by simp [go_sem]) rfl ?_)
        | (go_at_call 10; refine (HBu.out _ hE).mono ?_; clear hE; rintro e w3 ⟨v, rfl, m, a, c1, rfl, hE, hK⟩)
        | ((with_reducible (show Go.wpList _ _ _ (Go.Oper.mk _ (.alloc 28) _ _ _ _ :: _) _ _)); refine wpl_alloc hE rfl rfl (by simp [go_sem]; rfl) ?_; clear hE; intro b9 w hE; simp only [Act.eval, Act.put, List.setIfInBounds_toArray, List.set_cons_zero, List.set_cons_succ, getD_lit, List.getD_cons_succ, List.getD_cons_zero, Value.cells] at hE)
        | ((with_reducible (show Go.wpList _ _ _ (Go.Oper.mk _ (.store 28 (.tmp 9) _) _ _ _ _ :: _) _ _)); refine wpl_storeW hE 0 rfl rfl rfl (xs := [.bool t.dir, .string ⟨t.data.toArray⟩, .slice a t.kids.length c1]) rfl rfl Tryd.sizeOf28 rfl (by simp [Value.oneCell']) rfl ?_; clear hE; intro w hE; simp only [List.set_cons_zero] at hE)
        | ((with_reducible (show Go.wpList _ _ _ (Go.Oper.mk _ (.store 28 (.tmp 2) _) _ _ _ _ :: _) _ _)); obtain ⟨⟨z0, z1, z2⟩, hE2⟩ := (hE.front 2 rfl).unpack; clear hE; refine wpl_storeW hE2 0 rfl rfl rfl (xs := [.bool false, .string ⟨#[]⟩, .slice none 0 0]) rfl rfl Tryd.sizeOf28 rfl (by simp [Value.oneCell']) rfl ?_; clear hE2; intro w hE; simp only [List.set_cons_zero, List.cons_append, List.nil_append] at hE))
      refine post_mark rfl (hE.front 2 rfl) (fun w' hw' => ⟨_, results_cell2 (v := .int .i64 er) rfl hw' 0 rfl rfl Tryd.isAgg28 Tryd.sizeOf28 rfl rfl, _, rfl, TkPost.bad R.out hw'.tail.tail.tail.tail.tail.tail.drop⟩)
    | true =>
      have he0 : er = 0 := by simpa using he
      subst he0
      have hG := ((build_same es).2 (by rw [hbt])).1
      rw [((build_same es).2 (by rw [hbt])).2, hbt] at hG
      have h64 : es.length ≤ 64 := by
        rcases Nat.lt_or_ge 64 es.length with h | h
        · rw [buildT, if_pos h] at hbt; cases hbt
        · exact h
      have hw := hG.2.1
      have hal := all_perm hG
      have HPu := SL.hid (fun (b9 : Nat) (m : List HProp) (a : Option Addr) (c1 : Nat) (w : World) (hK : KidsAt (pt D (.deferred (some [])) :: anyN b2 :: pt b4 (.cells #[.slice ao es.length c] 22) :: rowEn ao c es :: pt b1 (.cells #[.string ⟨s.toArray⟩] 9) :: pt b5 (.cells #[.bool true] 4) :: (m ++ l)) (.slice a t.kids.length c1) t.kids) (h : Ent (pt b9 (.cells #[.bool t.dir, .string ⟨t.data.toArray⟩, .slice a t.kids.length c1] 28) :: pt D (.deferred (some [])) :: anyN b2 :: pt b4 (.cells #[.slice ao es.length c] 22) :: rowEn ao c es :: pt b1 (.cells #[.string ⟨s.toArray⟩] 9) :: pt b5 (.cells #[.bool true] 4) :: (m ++ l)) w) =>
        show Calls Tryd.prog 27 #[.agg #[.bool t.dir, .string ⟨t.data.toArray⟩, .slice a t.kids.length c1]] w (Ret fun v w' => v = .string ⟨(linesP (entT 6 [] t)).toArray⟩ ∧ ∃ m5, Ent (pt b9 (.cells #[.bool t.dir, .string ⟨t.data.toArray⟩, .slice a t.kids.length c1] 28) :: pt D (.deferred (some [])) :: anyN b2 :: pt b4 (.cells #[.slice ao es.length c] 22) :: rowEn ao c es :: pt b1 (.cells #[.string ⟨s.toArray⟩] 9) :: pt b5 (.cells #[.bool true] 4) :: (m5 ++ (m ++ l))) w') from by
          refine (Put_any (t := t) hw (by decide) (hK.suf (List.suffix_cons _ _)) (by rw [hal.length_eq]; omega) (fun x hx => hbe x (hal.mem_iff.1 hx)) h).mono ?_
          rintro e w' ⟨v, rfl, rfl, m5, hE⟩
          exact ⟨_, rfl, rfl, m5, Ent.swap (a := m5) (b := pt b9 (.cells #[.bool t.dir, .string ⟨t.data.toArray⟩, .slice a t.kids.length c1] 28) :: [pt D (.deferred (some [])), anyN b2, pt b4 (.cells #[.slice ao es.length c] 22), rowEn ao c es, pt b1 (.cells #[.string ⟨s.toArray⟩] 9), pt b5 (.cells #[.bool true] 4)]) hE⟩)
      have Htk := SL.hid (show takeP s = if linesP (entT 6 [] t) = s then (0, t) else (3, .zero) by
        rw [takeP, Hes.out]
        simp only
        rw [hbt, if_neg (by simp)])
      clear he hbt hbe hG h64 hw hal
      generalize linesP (entT 6 [] t) = LP at *
      go_wp2_with (first
        | go_skip
        | ((with_reducible (show Go.wpList _ _ _ (Go.Oper.mk _ (.load 4 _) _ _ _ _ :: _) _ _)); refine wpl_load1 hE 5 rfl rfl rfl rfl (by simp [go_sem]) rfl ?_)
        | ((with_reducible (show Go.wpList _ _ _ (Go.Oper.mk _ (.load 22 _) _ _ _ _ :: _) _ _)); refine wpl_load1 hE 2 rfl rfl rfl rfl (by simp [go_sem]) rfl ?_)
        | (go_at_call 10; refine (HBu.out _ hE).mono ?_; clear hE; rintro e w3 ⟨v, rfl, m, a, c1, rfl, hE, hK⟩)
        | ((with_reducible (show Go.wpList _ _ _ (Go.Oper.mk _ (.alloc 28) _ _ _ _ :: _) _ _)); refine wpl_alloc hE rfl rfl (by simp [go_sem]; rfl) ?_; clear hE; intro b9 w hE; simp only [Act.eval, Act.put, List.setIfInBounds_toArray, List.set_cons_zero, List.set_cons_succ, getD_lit, List.getD_cons_succ, List.getD_cons_zero, Value.cells] at hE)
        | ((with_reducible (show Go.wpList _ _ _ (Go.Oper.mk _ (.store 28 (.tmp 9) _) _ _ _ _ :: _) _ _)); refine wpl_storeW hE 0 rfl rfl rfl (xs := [.bool t.dir, .string ⟨t.data.toArray⟩, .slice a t.kids.length c1]) rfl rfl Tryd.sizeOf28 rfl (by simp [Value.oneCell']) rfl ?_; clear hE; intro w hE; simp only [List.set_cons_zero] at hE))
      have HP := SL.hid (fun (w : World) (h : Ent (pt b9 (.cells #[.bool t.dir, .string ⟨t.data.toArray⟩, .slice a t.kids.length c1] 28) :: pt D (.deferred (some [])) :: anyN b2 :: pt b4 (.cells #[.slice ao es.length c] 22) :: rowEn ao c es :: pt b1 (.cells #[.string ⟨s.toArray⟩] 9) :: pt b5 (.cells #[.bool true] 4) :: (m ++ l)) w) => HPu.out b9 m a c1 w hK h)
      clear HBu HPu
      cases heq : (LP == s) with
      | true =>
        have R := SL.hid (show takeP s = (0, t) by rw [Htk.out, if_pos (by simpa using heq)])
        refine wp_onlyN ?_
        refine wp_region_held_drew (S := (fun w' => ((Instr.loadAt 28 (.pointer (some ⟨b9, 0, none⟩))).run Tryd.prog w' = .ok (.agg [.bool t.dir, .string ⟨t.data.toArray⟩, .slice a t.kids.length c1].toArray) w') ∧ ((Instr.loadAt 9 (.pointer (some ⟨b1, 0, none⟩))).run Tryd.prog w' = .ok (.string ⟨s.toArray⟩) w'))) (by kernel_rfl) ⟨(atWm hE.drew (by repeat (first | exact List.Mem.head _ | refine List.Mem.tail _ ?_)) Tryd.isAgg28 Tryd.sizeOf28 rfl), (atVm hE.drew (by repeat (first | exact List.Mem.head _ | refine List.Mem.tail _ ?_)) (by simp [go_sem]) rfl)⟩ (fun hS => ?_)
        refine takeW 0 ⟨some 46, .load 28 (.tmp 9), 28, "manifest.go:112", #[], none⟩ ?_ (.inl ⟨by rfl, ?_⟩) hS ?_
        rotate_left
        · (intro w hSw; (try dsimp only at hSw); go_simp; (try with_reducible rfl))
        try simp only [Act.put, sb, s0, sz]
        refine takeW 2 ⟨some 48, .load 9 (.tmp 1), 9, "manifest.go:112", #[], none⟩ ?_ (.inl ⟨by rfl, ?_⟩) hS ?_
        rotate_left
        · (intro w hSw; (try dsimp only at hSw); go_simp; (try with_reducible rfl))
        try simp only [Act.put, sb, s0, sz]
        refine wpAnyH_ready (rs := [1]) (by kernel_rfl) (by simp) ?_
        refine (AllReadyH.cons (o := { dst := some 47, op := Go.Op.call { callee := Go.Callee.value (Go.Operand.func 27), args := #[Go.Operand.tmp 46], argTypes := #[28] }, type := 9, pos := "manifest.go:112", after := #[{ on := 0, ground := Go.Ground.data }], guard := none }) rfl (fun K hK => ?_) AllReadyH.nil)
        (go_simp; refine (HP.out _ hE.drew).mono ?_; rintro e w5 ⟨v, rfl, rfl, m5, hP⟩)
        refine hK.out _ _ ⟨(atWm hP (by repeat (first | exact List.Mem.head _ | refine List.Mem.tail _ ?_)) Tryd.isAgg28 Tryd.sizeOf28 rfl), (atVm hP (by repeat (first | exact List.Mem.head _ | refine List.Mem.tail _ ?_)) (by simp [go_sem]) rfl)⟩ (fun hS => ?_)
        clear hK K
        try simp only [Act.put, sb, s0, sz]
        refine takeW 3 ⟨some 49, .binOp .neq 9 (.tmp 47) (.tmp 48) 9, 4, "manifest.go:112", #[⟨1, .data⟩, ⟨2, .data⟩], none⟩ ?_ (.inl ⟨by rfl, ?_⟩) hS ?_
        rotate_left
        · (intro w hSw; (try dsimp only at hSw); go_simp; (try with_reducible rfl))
        try simp only [Act.put, sb, s0, sz]
        refine wpAnyH_done (by kernel_rfl) ?_ _
        all_goals
          refine onlyN_n ?_
          clear hS
          replace hE := hP
          clear hP
          go_wp2_with (first
            | go_skip
            | ((with_reducible (show Go.wpList _ _ _ (Go.Oper.mk _ (.load 28 _) _ _ _ _ :: _) _ _)); refine wpl_loadW hE 0 rfl rfl rfl rfl Tryd.isAgg28 Tryd.sizeOf28 rfl ?_)
            | ((with_reducible (show Go.wpList _ _ _ (Go.Oper.mk _ (.store 28 (.tmp 2) _) _ _ _ _ :: _) _ _)); obtain ⟨⟨z0, z1, z2⟩, hE2⟩ := (hE.front 2 rfl).unpack; clear hE; refine wpl_storeW hE2 0 rfl rfl rfl (xs := [.bool t.dir, .string ⟨t.data.toArray⟩, .slice a t.kids.length c1]) rfl rfl Tryd.sizeOf28 rfl (by simp [Value.oneCell']) rfl ?_; clear hE2; intro w hE; simp only [List.set_cons_zero, List.cons_append, List.nil_append] at hE))
          refine post_mark2 rfl (hE.front 2 rfl) (fun w' hw' => ⟨_, results_cell2 (v := .int .i64 0) rfl hw' 1 rfl rfl Tryd.isAgg28 Tryd.sizeOf28 rfl rfl, _, rfl, ?_⟩)
          refine ⟨anyD D :: anyN b2 :: pt b9 (.cells #[.bool t.dir, .string ⟨t.data.toArray⟩, .slice a t.kids.length c1] 28) :: pt b4 (.cells #[.slice ao es.length c] 22) :: rowEn ao c es :: pt b1 (.cells #[.string ⟨s.toArray⟩] 9) :: pt b5 (.cells #[.bool true] 4) :: (m5 ++ m), .slice a t.kids.length c1, by rw [R.out]; rfl, ?_, ?_⟩
          · have h1 := (anyD_none hw').front 1 rfl
            have h2 := (anyN_of h1).front 1 rfl
            simp only [List.append_assoc, List.cons_append]
            exact h2
          · rw [R.out]
            refine KidsAt.mono (fun p hp W hW => hp W ?_) (KidsAt.monoR (fun v n xs h => knows_anyD h) hK)
            simp only [List.append_assoc, List.cons_append] at hW
            exact (Ent.swap (a := [anyD D, anyN b2, pt b4 (.cells #[.slice ao es.length c] 22), rowEn ao c es, pt b1 (.cells #[.string ⟨s.toArray⟩] 9), pt b5 (.cells #[.bool true] 4)]) (b := m5) ((hW.front 2 rfl).tail)).drop
      | false =>
        have R := SL.hid (show takeP s = (3, .zero) by rw [Htk.out, if_neg (by simpa using heq)])
        refine wp_onlyN ?_
        refine wp_region_held_drew (S := (fun w' => ((Instr.loadAt 28 (.pointer (some ⟨b9, 0, none⟩))).run Tryd.prog w' = .ok (.agg [.bool t.dir, .string ⟨t.data.toArray⟩, .slice a t.kids.length c1].toArray) w') ∧ ((Instr.loadAt 9 (.pointer (some ⟨b1, 0, none⟩))).run Tryd.prog w' = .ok (.string ⟨s.toArray⟩) w'))) (by kernel_rfl) ⟨(atWm hE.drew (by repeat (first | exact List.Mem.head _ | refine List.Mem.tail _ ?_)) Tryd.isAgg28 Tryd.sizeOf28 rfl), (atVm hE.drew (by repeat (first | exact List.Mem.head _ | refine List.Mem.tail _ ?_)) (by simp [go_sem]) rfl)⟩ (fun hS => ?_)
        refine takeW 0 ⟨some 46, .load 28 (.tmp 9), 28, "manifest.go:112", #[], none⟩ ?_ (.inl ⟨by rfl, ?_⟩) hS ?_
        rotate_left
        · (intro w hSw; (try dsimp only at hSw); go_simp; (try with_reducible rfl))
        try simp only [Act.put, sb, s0, sz]
        refine takeW 2 ⟨some 48, .load 9 (.tmp 1), 9, "manifest.go:112", #[], none⟩ ?_ (.inl ⟨by rfl, ?_⟩) hS ?_
        rotate_left
        · (intro w hSw; (try dsimp only at hSw); go_simp; (try with_reducible rfl))
        try simp only [Act.put, sb, s0, sz]
        refine wpAnyH_ready (rs := [1]) (by kernel_rfl) (by simp) ?_
        refine (AllReadyH.cons (o := { dst := some 47, op := Go.Op.call { callee := Go.Callee.value (Go.Operand.func 27), args := #[Go.Operand.tmp 46], argTypes := #[28] }, type := 9, pos := "manifest.go:112", after := #[{ on := 0, ground := Go.Ground.data }], guard := none }) rfl (fun K hK => ?_) AllReadyH.nil)
        (go_simp; refine (HP.out _ hE.drew).mono ?_; rintro e w5 ⟨v, rfl, rfl, m5, hP⟩)
        refine hK.out _ _ ⟨(atWm hP (by repeat (first | exact List.Mem.head _ | refine List.Mem.tail _ ?_)) Tryd.isAgg28 Tryd.sizeOf28 rfl), (atVm hP (by repeat (first | exact List.Mem.head _ | refine List.Mem.tail _ ?_)) (by simp [go_sem]) rfl)⟩ (fun hS => ?_)
        clear hK K
        try simp only [Act.put, sb, s0, sz]
        refine takeW 3 ⟨some 49, .binOp .neq 9 (.tmp 47) (.tmp 48) 9, 4, "manifest.go:112", #[⟨1, .data⟩, ⟨2, .data⟩], none⟩ ?_ (.inl ⟨by rfl, ?_⟩) hS ?_
        rotate_left
        · (intro w hSw; (try dsimp only at hSw); go_simp; (try with_reducible rfl))
        try simp only [Act.put, sb, s0, sz]
        refine wpAnyH_done (by kernel_rfl) ?_ _
        all_goals
          refine onlyN_n ?_
          clear hS
          replace hE := hP
          clear hP
          go_wp2_with (first
            | go_skip
            | ((with_reducible (show Go.wpList _ _ _ (Go.Oper.mk _ (.store 28 (.tmp 2) _) _ _ _ _ :: _) _ _)); obtain ⟨⟨z0, z1, z2⟩, hE2⟩ := (hE.front 2 rfl).unpack; clear hE; refine wpl_storeW hE2 0 rfl rfl rfl (xs := [.bool false, .string ⟨#[]⟩, .slice none 0 0]) rfl rfl Tryd.sizeOf28 rfl (by simp [Value.oneCell']) rfl ?_; clear hE2; intro w hE; simp only [List.set_cons_zero, List.cons_append, List.nil_append] at hE))
          refine post_mark rfl (hE.front 2 rfl) (fun w' hw' => ⟨_, results_cell2 (v := .int .i64 3) rfl hw' 0 rfl rfl Tryd.isAgg28 Tryd.sizeOf28 rfl rfl, _, rfl, TkPost.bad R.out hw'.tail.tail.tail.tail.tail.tail.drop.drop⟩)
theorem Take_any {s : List UInt8} (hs : s.length ≤ 10000000) (hx : ∀ x ∈ cutsN (trimP s), x.length ≤ 1000000) {l : List HProp} {w : World} (hE : Ent l w) :
    Calls Tryd.prog 26 #[.string ⟨s.toArray⟩] w (Ret (TkPost s l)) := by
  by_cases h0 : s = []
  · exact Take_none hs h0 hE
  · exact Take_some hs hx h0 hE
end Go.Proofs.YtjmllpgmbaoebaaDoor
namespace Go.Proofs.YtjmllpgmbaoebaaDoor
open Go.RowKit Go.SL

def T3 : Tr := .nd true [] [([100], .nd true [] [([120], .nd false [34, 0] [])])]
def es3 : List En := [⟨[100], true, []⟩, ⟨[100, 47, 120], false, [34, 0]⟩]
def S3 : List UInt8 := [100, 32, 100, 10, 102, 32, 100, 47, 120, 32, 34, 92, 34, 92, 120, 48, 48, 34, 10]
def S4 : List UInt8 := [102, 32, 120, 32, 34, 0, 34, 10]
set_option maxRecDepth 100000 in
theorem built3 : buildT es3 = (0, T3) := by kernel_rfl
set_option maxRecDepth 100000 in
theorem put3 : linesP (entT 6 [] T3) = S3 := by kernel_rfl
set_option maxRecDepth 100000 in
theorem parse3 : parse S3 = some es3 := by kernel_rfl
theorem take3 : takeP S3 = (0, T3) := by
  rw [takeP, parse3]
  simp only
  rw [built3, if_neg (by simp)]
  simp only
  rw [put3, if_pos rfl]
set_option maxRecDepth 100000 in
theorem parse4 : parse S4 = none := by kernel_rfl
theorem take4 : takeP S4 = (3, .zero) := takeP_none parse4
set_option maxRecDepth 100000 in
theorem all3 : (entT 6 [] T3).length = 2 := by kernel_rfl
set_option maxRecDepth 100000 in
theorem wf3 : Tr.Wf 6 T3 := by
  have h := (build_same es3).2 (by rw [built3])
  rw [built3] at h
  exact h.1.2.1
set_option maxRecDepth 100000 in
theorem ent3 : ∀ x ∈ entT 6 [] T3, x.path.length ≤ 1000000 ∧ x.data.length ≤ 1000000 := by
  have h := (build_same es3).2 (by rw [built3])
  have hp := all_perm h.1
  rw [h.2, built3] at hp
  intro x hx
  have := hp.mem_iff.1 hx
  simp only [es3, List.mem_cons, List.not_mem_nil, or_false] at this
  rcases this with rfl | rfl <;> exact ⟨by decide, by decide⟩
theorem cut3 : ∀ x ∈ cutsN (trimP S3), x.length ≤ 1000000 := by
  intro x hx
  have h1 := (cutsN_len (trimP S3)).2 x hx
  have h2 : (trimP S3).length ≤ 19 := by decide
  omega
theorem cut4 : ∀ x ∈ cutsN (trimP S4), x.length ≤ 1000000 := by
  intro x hx
  have h1 := (cutsN_len (trimP S4)).2 x hx
  have h2 : (trimP S4).length ≤ 19 := by decide
  omega
end Go.Proofs.YtjmllpgmbaoebaaDoor
namespace Go.Proofs.YtjmllpgmbaoebaaDoor
open Go.RowKit Go.SL

set_option maxRecDepth 100000 in
set_option maxHeartbeats 4000000 in
attribute [-go_sem] Instr.loadAt in
theorem wakes30_any {l : List HProp} {w : World} (hE : Ent l w) : Calls Tryd.prog 20 #[] w (Ret fun v w' => v = .bool true ∧ Ent l w') := by
  have HB1 := SL.hid (fun (b : Nat) (L : List HProp) (w : World) (hE : Ent (pt b (.cells #[.string ⟨#[100]⟩, .bool true, .string ⟨#[]⟩, .string ⟨#[100, 47, 120]⟩, .bool false, .string ⟨#[34, 0]⟩] 41) :: L) w) =>
    show Calls Tryd.prog 10 #[.slice (some ⟨b, 0, none⟩) 2 2] w (Ret fun v w' => ∃ m a c, v = .tuple #[.agg #[.bool true, .string ⟨#[]⟩, .slice a 1 c], .int .i64 0] ∧ Ent (m ++ L) w' ∧ KidsAt (m ++ L) (.slice a 1 c) T3.kids) from by
      refine (wk_build (es := es3) (by decide) (by intro x hx; simp only [es3, List.mem_cons, List.not_mem_nil, or_false] at hx; rcases hx with rfl | rfl <;> exact ⟨by decide, by decide⟩) hE).mono ?_
      rintro e w' ⟨v, rfl, m, kv, h, hE, hk⟩
      rw [built3] at h hk
      obtain ⟨a, c, rfl⟩ := hk.slice
      exact ⟨_, rfl, m, a, c, h, hE, hk⟩)
  have HP := SL.hid (fun (A : HProp) (a : Option Addr) (c : Nat) (L : List HProp) (w : World) (hk : KidsAt L (.slice a 1 c) T3.kids) (hE : Ent (A :: L) w) =>
    show Calls Tryd.prog 27 #[.agg #[.bool true, .string ⟨#[]⟩, .slice a 1 c]] w (Ret fun v w' => v = .string ⟨#[100, 32, 100, 10, 102, 32, 100, 47, 120, 32, 34, 92, 34, 92, 120, 48, 48, 34, 10]⟩ ∧ ∃ m, Ent (A :: (m ++ L)) w') from by
      refine (Put_any (t := T3) wf3 (by decide) (hk.suf (List.suffix_cons _ _)) (by rw [all3]; decide) ent3 hE).mono ?_
      rintro e w' ⟨v, rfl, h, m, hE⟩
      rw [put3] at h
      exact ⟨_, rfl, h, m, Ent.swap (a := m) (b := [A]) hE⟩)
  have HT1 := SL.hid (fun (A : HProp) (L : List HProp) (w : World) (hE : Ent (A :: L) w) =>
    show Calls Tryd.prog 26 #[.string ⟨#[100, 32, 100, 10, 102, 32, 100, 47, 120, 32, 34, 92, 34, 92, 120, 48, 48, 34, 10]⟩] w (Ret fun v w' => ∃ m a c, v = .tuple #[.agg #[.bool true, .string ⟨#[]⟩, .slice a 1 c], .int .i64 0] ∧ Ent (A :: (m ++ L)) w' ∧ KidsAt (A :: (m ++ L)) (.slice a 1 c) T3.kids) from by
      refine (Take_any (s := S3) (by decide) cut3 hE).mono ?_
      rintro e w' ⟨v, rfl, m, kv, h, hE, hk⟩
      rw [take3] at h hk
      obtain ⟨a, c, rfl⟩ := hk.slice
      exact ⟨_, rfl, m, a, c, h, Ent.swap (a := m) (b := [A]) hE, hk.mono (fun p hp W hW => hp W (Ent.swap (a := [A]) (b := m) hW))⟩)
  have HT2 := SL.hid (fun (A B : HProp) (L : List HProp) (w : World) (hE : Ent (A :: B :: L) w) =>
    show Calls Tryd.prog 26 #[.string ⟨#[102, 32, 120, 32, 34, 0, 34, 10]⟩] w (Ret fun v w' => ∃ m a c, v = .tuple #[.agg #[.bool false, .string ⟨#[]⟩, .slice a 0 c], .int .i64 3] ∧ Ent (A :: B :: (m ++ L)) w') from by
      refine (Take_any (s := S4) (by decide) cut4 hE).mono ?_
      rintro e w' ⟨v, rfl, m, kv, h, hE, hk⟩
      rw [take4] at h hk
      obtain ⟨a, c, rfl⟩ := hk.slice
      exact ⟨_, rfl, m, a, c, h, Ent.swap (a := m) (b := [A, B]) hE⟩)
  have HEn := SL.hid (fun (Lk : List HProp) (a : Option Addr) (c : Nat) (hk : KidsAt Lk (.slice a 1 c) T3.kids) (L : List HProp) (w : World) (hs : Lk <:+ L) (hE : Ent L w) =>
    show Calls Tryd.prog 13 #[.agg #[.bool true, .string ⟨#[]⟩, .slice a 1 c]] w (Ret fun v w' => ∃ a' c' m, v = .slice a' 2 c' ∧ Ent (rowEn a' c' (entT 6 [] T3) :: (m ++ L)) w') from by
      refine (Entries_any wf3 (by decide) (hk.suf hs) (by rw [all3]; decide) hE).mono ?_
      rintro e w' ⟨v, rfl, ao, c, m, h, hE⟩
      refine ⟨_, rfl, ao, c, m, ?_, hE⟩
      rw [h, all3])
  have HR1 := SL.hid (fun (a4 : Option Addr) (c4 : Nat) (a5 : Option Addr) (c5 : Nat) (m4 m5 L : List HProp) (w : World) (hE : Ent (rowEn a5 c5 (entT 6 [] T3) :: (m5 ++ (rowEn a4 c4 (entT 6 [] T3) :: (m4 ++ L)))) w) =>
    show Calls Tryd.prog 12 #[.slice a4 2 c4, .slice a5 2 c5] w (Ret fun v w' => v = .bool true ∧ Ent (rowEn a5 c5 (entT 6 [] T3) :: (m5 ++ (rowEn a4 c4 (entT 6 [] T3) :: (m4 ++ L)))) w') from by
      have h := Row_same (es := entT 6 [] T3) (by rw [all3]; decide) (ao := a4) (bo := a5) (c := c4) (d := c5) (fun w h => reads_row h.tail.drop 0 rfl) (fun w h => reads_row h 0 rfl) hE
      rw [all3] at h
      exact h)
  have HR2 := SL.hid (fun (a4 : Option Addr) (c4 : Nat) (a5 : Option Addr) (c5 : Nat) (m4 m5 L : List HProp) (w : World) (hE : Ent (rowEn a4 c4 (entT 6 [] T3) :: (m4 ++ (rowEn a5 c5 (entT 6 [] T3) :: (m5 ++ L)))) w) =>
    show Calls Tryd.prog 12 #[.slice a4 2 c4, .slice a5 2 c5] w (Ret fun v w' => v = .bool true ∧ Ent (rowEn a4 c4 (entT 6 [] T3) :: (m4 ++ (rowEn a5 c5 (entT 6 [] T3) :: (m5 ++ L)))) w') from by
      have h := Row_same (es := entT 6 [] T3) (by rw [all3]; decide) (ao := a4) (bo := a5) (c := c4) (d := c5) (fun w h => reads_row h 0 rfl) (fun w h => reads_row h.tail.drop 0 rfl) hE
      rw [all3] at h
      exact h)
  have Tok1 := SL.hid True.intro
  have Tok2 := SL.hid True.intro
  go_enter Tryd.func20, Tryd.ntmps20
  go_wp2_with (first
    | go_skip
    | ((with_reducible (show Go.wpList _ _ _ (Go.Oper.mk _ (.buildSlice 22 2 _) _ _ _ _ :: _) _ _)); refine wpl_build2 hE rfl rfl (xs := [.string ⟨#[100]⟩, .bool true, .string ⟨#[]⟩]) (ys := [.string ⟨#[100, 47, 120]⟩, .bool false, .string ⟨#[34, 0]⟩]) rfl rfl Tryd.underlying22 zs_en Tryd.sizeOf41 (by decide) (by decide) rfl rfl ?_; clear hE; intro s1 w hE)
    | (go_at_call 10; refine (HB1.out _ _ _ hE).mono ?_; clear hE HB1; rintro e w2 ⟨v, rfl, m1, a1, c1, rfl, hE, hKN⟩)
    | (go_at_call 27; refine (HP.out _ _ _ _ _ hKN hE).mono ?_; clear hE HP; rintro e w2 ⟨v, rfl, rfl, mP, hE⟩)
    | (go_at_call 26; refine (HT1.out _ _ _ hE).mono ?_; clear hE HT1; rintro e w2 ⟨v, rfl, mT, a4, c4, rfl, hE, hKM⟩)
    | (go_at_call 26; refine (HT2.out _ _ _ _ hE).mono ?_; clear hE HT2; rintro e w2 ⟨v, rfl, mU, a6, c6, rfl, hE⟩)
    | ((with_reducible (show Go.wpList _ _ _ (Go.Oper.mk _ (.alloc 28) _ _ _ _ :: _) _ _)); clear Tok1; refine wpl_alloc hE rfl rfl (by simp [go_sem]; rfl) ?_; clear hE; intro b1 w hE; simp only [Act.eval, Act.put, List.setIfInBounds_toArray, List.set_cons_zero, List.set_cons_succ, getD_lit, List.getD_cons_succ, List.getD_cons_zero, Value.cells] at hE)
    | ((with_reducible (show Go.wpList _ _ _ (Go.Oper.mk _ (.alloc 28) _ _ _ _ :: _) _ _)); clear Tok2; refine wpl_alloc hE rfl rfl (by simp [go_sem]; rfl) ?_; clear hE; intro b4 w hE; simp only [Act.eval, Act.put, List.setIfInBounds_toArray, List.set_cons_zero, List.set_cons_succ, getD_lit, List.getD_cons_succ, List.getD_cons_zero, Value.cells] at hE)
    | ((with_reducible (show Go.wpList _ _ _ (Go.Oper.mk _ (.alloc 28) _ _ _ _ :: _) _ _)); refine wpl_alloc hE rfl rfl (by simp [go_sem]; rfl) ?_; clear hE; intro b6 w hE; simp only [Act.eval, Act.put, List.setIfInBounds_toArray, List.set_cons_zero, List.set_cons_succ, getD_lit, List.getD_cons_succ, List.getD_cons_zero, Value.cells] at hE)
    | ((with_reducible (show Go.wpList _ _ _ (Go.Oper.mk _ (.store 28 _ _) _ _ _ _ :: _) _ _)); refine wpl_storeW hE 0 rfl rfl rfl (xs := [_, _, _]) rfl rfl Tryd.sizeOf28 rfl (by simp [Value.oneCell']) rfl ?_; clear hE; intro w hE; simp only [List.set_cons_zero] at hE)
    | ((with_reducible (show Go.wpList _ _ _ (Go.Oper.mk _ (.load 28 _) _ _ _ _ :: _) _ _)); (first | (refine wpl_loadW hE 0 rfl rfl rfl rfl Tryd.isAgg28 Tryd.sizeOf28 rfl ?_) | (refine wpl_loadW hE 1 rfl rfl rfl rfl Tryd.isAgg28 Tryd.sizeOf28 rfl ?_) | (refine wpl_loadW hE 2 rfl rfl rfl rfl Tryd.isAgg28 Tryd.sizeOf28 rfl ?_) | (refine wpl_loadW hE 3 rfl rfl rfl rfl Tryd.isAgg28 Tryd.sizeOf28 rfl ?_) | (refine wpl_loadW hE 4 rfl rfl rfl rfl Tryd.isAgg28 Tryd.sizeOf28 rfl ?_) | (refine wpl_loadW hE 5 rfl rfl rfl rfl Tryd.isAgg28 Tryd.sizeOf28 rfl ?_) | (refine wpl_loadW hE 6 rfl rfl rfl rfl Tryd.isAgg28 Tryd.sizeOf28 rfl ?_) | (refine wpl_loadW hE 7 rfl rfl rfl rfl Tryd.isAgg28 Tryd.sizeOf28 rfl ?_))))
  have HM := SL.hid (HEn.out _ a4 c4 (hKM.mono (fun p hp W (hW : Ent (pt b6 (.cells #[.bool false, .string ⟨#[]⟩, .slice a6 0 c6] 28) :: pt b4 (.cells #[.bool true, .string ⟨#[]⟩, .slice a4 1 c4] 28) :: pt b1 (.cells #[.bool true, .string ⟨#[]⟩, .slice a1 1 c1] 28) :: (mU ++ (mT ++ (mP ++ (m1 ++ l))))) W) => hp W ((Ent.swap (a := [pt b6 (.cells #[.bool false, .string ⟨#[]⟩, .slice a6 0 c6] 28), pt b4 (.cells #[.bool true, .string ⟨#[]⟩, .slice a4 1 c4] 28), pt b1 (.cells #[.bool true, .string ⟨#[]⟩, .slice a1 1 c1] 28)]) (b := mU) hW).drop.tail.tail))))
  have HN := SL.hid (HEn.out _ a1 c1 hKN)
  clear hKM hKN HEn
  generalize entT 6 [] T3 = all at *
  refine wp_region_held_drew (S := (fun w' => ((Instr.loadAt 28 (.pointer (some ⟨b4, 0, none⟩))).run Tryd.prog w' = .ok (.agg [.bool true, .string ⟨#[]⟩, .slice a4 1 c4].toArray) w') ∧ ((Instr.loadAt 28 (.pointer (some ⟨b1, 0, none⟩))).run Tryd.prog w' = .ok (.agg [.bool true, .string ⟨#[]⟩, .slice a1 1 c1].toArray) w'))) (by kernel_rfl) ⟨(atWm hE.drew (by repeat (first | exact List.Mem.head _ | refine List.Mem.tail _ ?_)) Tryd.isAgg28 Tryd.sizeOf28 rfl), (atWm hE.drew (by repeat (first | exact List.Mem.head _ | refine List.Mem.tail _ ?_)) Tryd.isAgg28 Tryd.sizeOf28 rfl)⟩ (fun hS => ?_)
  refine takeW 0 ⟨some 26, .move (.tmp 2), 29, "law.go:19", #[], none⟩ ?_ (.inl ⟨by rfl, ?_⟩) hS ?_
  rotate_left
  · (intro w hSw; (try dsimp only at hSw); go_simp; (try with_reducible rfl))
  try simp only [Act.put, sb, s0, sz]
  refine takeW 1 ⟨some 27, .binOp .eql 29 (.tmp 26) (.const (.int .i64 0)) 29, 4, "law.go:19", #[⟨0, .data⟩], none⟩ ?_ (.inl ⟨by rfl, ?_⟩) hS ?_
  rotate_left
  · (intro w hSw; (try dsimp only at hSw); go_simp; (try with_reducible rfl))
  try simp only [Act.put, sb, s0, sz]
  refine takeW 2 ⟨some 28, .move (.tmp 27), 4, "law.go:19", #[⟨1, .data⟩], none⟩ ?_ (.inl ⟨by rfl, ?_⟩) hS ?_
  rotate_left
  · (intro w hSw; (try dsimp only at hSw); go_simp; (try with_reducible rfl))
  try simp only [Act.put, sb, s0, sz]
  refine takeW 3 ⟨some 29, .move (.tmp 3), 9, "law.go:19", #[⟨2, .guard⟩], some (2, true)⟩ ?_ (.inl ⟨by rfl, ?_⟩) hS ?_
  rotate_left
  · (intro w hSw; (try dsimp only at hSw); go_simp; (try with_reducible rfl))
  try simp only [Act.put, sb, s0, sz]
  refine takeW 4 ⟨some 30, .binOp .eql 9 (.tmp 29) (.const (.string { data := #[100, 32, 100, 10, 102, 32, 100, 47, 120, 32, 34, 92, 34, 92, 120, 48, 48, 34, 10] })) 9, 4, "law.go:19", #[⟨3, .data⟩, ⟨2, .guard⟩], some (2, true)⟩ ?_ (.inl ⟨by rfl, ?_⟩) hS ?_
  rotate_left
  · (intro w hSw; (try dsimp only at hSw); go_simp; (try with_reducible rfl))
  try simp only [Act.put, sb, s0, sz]
  refine takeW 5 ⟨some 31, .pick (.tmp 28) (.tmp 30) (.const (.bool false)), 4, "law.go:19", #[⟨2, .data⟩, ⟨4, .data⟩], none⟩ ?_ (.inl ⟨by rfl, ?_⟩) hS ?_
  rotate_left
  · (intro w hSw; (try dsimp only at hSw); go_simp; (try with_reducible rfl))
  try simp only [Act.put, sb, s0, sz]
  refine takeW 6 ⟨some 32, .move (.tmp 31), 4, "law.go:19", #[⟨5, .data⟩, ⟨2, .chain⟩], none⟩ ?_ (.inl ⟨by rfl, ?_⟩) hS ?_
  rotate_left
  · (intro w hSw; (try dsimp only at hSw); go_simp; (try with_reducible rfl))
  try simp only [Act.put, sb, s0, sz]
  refine takeW 7 ⟨some 33, .move (.tmp 5), 29, "law.go:19", #[⟨6, .guard⟩], some (6, true)⟩ ?_ (.inl ⟨by rfl, ?_⟩) hS ?_
  rotate_left
  · (intro w hSw; (try dsimp only at hSw); go_simp; (try with_reducible rfl))
  try simp only [Act.put, sb, s0, sz]
  refine takeW 8 ⟨some 34, .binOp .eql 29 (.tmp 33) (.const (.int .i64 0)) 29, 4, "law.go:19", #[⟨7, .data⟩, ⟨6, .guard⟩], some (6, true)⟩ ?_ (.inl ⟨by rfl, ?_⟩) hS ?_
  rotate_left
  · (intro w hSw; (try dsimp only at hSw); go_simp; (try with_reducible rfl))
  try simp only [Act.put, sb, s0, sz]
  refine takeW 9 ⟨some 35, .pick (.tmp 32) (.tmp 34) (.const (.bool false)), 4, "law.go:19", #[⟨6, .data⟩, ⟨8, .data⟩], none⟩ ?_ (.inl ⟨by rfl, ?_⟩) hS ?_
  rotate_left
  · (intro w hSw; (try dsimp only at hSw); go_simp; (try with_reducible rfl))
  try simp only [Act.put, sb, s0, sz]
  refine takeW 10 ⟨some 36, .move (.tmp 35), 4, "law.go:19", #[⟨9, .data⟩, ⟨6, .chain⟩], none⟩ ?_ (.inl ⟨by rfl, ?_⟩) hS ?_
  rotate_left
  · (intro w hSw; (try dsimp only at hSw); go_simp; (try with_reducible rfl))
  try simp only [Act.put, sb, s0, sz]
  refine takeW 11 ⟨some 37, .load 28 (.tmp 4), 28, "law.go:19", #[⟨10, .guard⟩], some (10, true)⟩ ?_ (.inl ⟨by rfl, ?_⟩) hS ?_
  rotate_left
  · (intro w hSw; (try dsimp only at hSw); go_simp; (try with_reducible rfl))
  try simp only [Act.put, sb, s0, sz]
  refine takeW 13 ⟨some 39, .load 28 (.tmp 1), 28, "law.go:19", #[⟨10, .guard⟩], some (10, true)⟩ ?_ (.inl ⟨by rfl, ?_⟩) hS ?_
  rotate_left
  · (intro w hSw; (try dsimp only at hSw); go_simp; (try with_reducible rfl))
  try simp only [Act.put, sb, s0, sz]
  refine wpAnyH_ready (rs := [12]) (by kernel_rfl) (by simp) ?_
  refine (AllReadyH.cons (o := { dst := some 38, op := Go.Op.call { callee := Go.Callee.value (Go.Operand.func 13), args := #[Go.Operand.tmp 37], argTypes := #[28] }, type := 22, pos := "law.go:19", after := #[{ on := 11, ground := Go.Ground.data }, { on := 10, ground := Go.Ground.chain }, { on := 10, ground := Go.Ground.guard }], guard := some (10, true) }) rfl (fun K hK => ?_) AllReadyH.nil)
  (go_simp; (first | have H := HM.out _ _ (by repeat (first | exact List.suffix_refl _ | refine List.IsSuffix.trans ?_ (List.suffix_cons _ _) | refine List.IsSuffix.trans ?_ (List.suffix_append _ _))) hR | have H := HM.out _ _ (by repeat (first | exact List.suffix_refl _ | refine List.IsSuffix.trans ?_ (List.suffix_cons _ _) | refine List.IsSuffix.trans ?_ (List.suffix_append _ _))) hE.drew); refine H.mono ?_; clear H; rintro e w3 ⟨v, rfl, x4, y4, n4, rfl, hN⟩)
  refine hK.out _ _ (by first | exact ⟨(atWm hN.tail.drop (by repeat (first | exact List.Mem.head _ | refine List.Mem.tail _ ?_)) Tryd.isAgg28 Tryd.sizeOf28 rfl), (atWm hN.tail.drop (by repeat (first | exact List.Mem.head _ | refine List.Mem.tail _ ?_)) Tryd.isAgg28 Tryd.sizeOf28 rfl)⟩ | exact ⟨(atWm hN.tail.drop.tail.drop (by repeat (first | exact List.Mem.head _ | refine List.Mem.tail _ ?_)) Tryd.isAgg28 Tryd.sizeOf28 rfl), (atWm hN.tail.drop.tail.drop (by repeat (first | exact List.Mem.head _ | refine List.Mem.tail _ ?_)) Tryd.isAgg28 Tryd.sizeOf28 rfl)⟩) (fun hS => ?_)
  clear hK K
  try simp only [Act.put, sb, s0, sz]
  refine wpAnyH_ready (rs := [14]) (by kernel_rfl) (by simp) ?_
  refine (AllReadyH.cons (o := { dst := some 40, op := Go.Op.call { callee := Go.Callee.value (Go.Operand.func 13), args := #[Go.Operand.tmp 39], argTypes := #[28] }, type := 22, pos := "law.go:19", after := #[{ on := 13, ground := Go.Ground.data }, { on := 12, ground := Go.Ground.chain }, { on := 10, ground := Go.Ground.guard }], guard := some (10, true) }) rfl (fun K hK => ?_) AllReadyH.nil)
  (go_simp; (first | have H := HN.out _ _ (by repeat (first | exact List.suffix_refl _ | refine List.IsSuffix.trans ?_ (List.suffix_cons _ _) | refine List.IsSuffix.trans ?_ (List.suffix_append _ _))) hN | have H := HN.out _ _ (by repeat (first | exact List.suffix_refl _ | refine List.IsSuffix.trans ?_ (List.suffix_cons _ _) | refine List.IsSuffix.trans ?_ (List.suffix_append _ _))) hE.drew); refine H.mono ?_; clear H; rintro e w4 ⟨v, rfl, x5, y5, n5, rfl, hR⟩)
  refine hK.out _ _ (by first | exact ⟨(atWm hR.tail.drop (by repeat (first | exact List.Mem.head _ | refine List.Mem.tail _ ?_)) Tryd.isAgg28 Tryd.sizeOf28 rfl), (atWm hR.tail.drop (by repeat (first | exact List.Mem.head _ | refine List.Mem.tail _ ?_)) Tryd.isAgg28 Tryd.sizeOf28 rfl)⟩ | exact ⟨(atWm hR.tail.drop.tail.drop (by repeat (first | exact List.Mem.head _ | refine List.Mem.tail _ ?_)) Tryd.isAgg28 Tryd.sizeOf28 rfl), (atWm hR.tail.drop.tail.drop (by repeat (first | exact List.Mem.head _ | refine List.Mem.tail _ ?_)) Tryd.isAgg28 Tryd.sizeOf28 rfl)⟩) (fun hS => ?_)
  clear hK K
  try simp only [Act.put, sb, s0, sz]
  refine wpAnyH_ready (rs := [15]) (by kernel_rfl) (by simp) ?_
  refine (AllReadyH.cons (o := { dst := some 41, op := Go.Op.call { callee := Go.Callee.value (Go.Operand.func 12), args := #[Go.Operand.tmp 38, Go.Operand.tmp 40], argTypes := #[22, 22] }, type := 4, pos := "law.go:19", after := #[{ on := 12, ground := Go.Ground.data }, { on := 14, ground := Go.Ground.data }, { on := 14, ground := Go.Ground.chain }, { on := 10, ground := Go.Ground.guard }], guard := some (10, true) }) rfl (fun K hK => ?_) AllReadyH.nil)
  (go_simp; (first | have H := HR1.out _ _ _ _ _ _ _ _ hR | have H := HR2.out _ _ _ _ _ _ _ _ hN); refine H.mono ?_; clear H; rintro e w5 ⟨v, rfl, rfl, hO⟩)
  refine hK.out _ _ ⟨(atWm hO.tail.drop.tail.drop (by repeat (first | exact List.Mem.head _ | refine List.Mem.tail _ ?_)) Tryd.isAgg28 Tryd.sizeOf28 rfl), (atWm hO.tail.drop.tail.drop (by repeat (first | exact List.Mem.head _ | refine List.Mem.tail _ ?_)) Tryd.isAgg28 Tryd.sizeOf28 rfl)⟩ (fun hS => ?_)
  clear hK K
  try simp only [Act.put, sb, s0, sz]
  refine takeW 16 ⟨some 42, .pick (.tmp 36) (.tmp 41) (.const (.bool false)), 4, "law.go:19", #[⟨10, .data⟩, ⟨15, .data⟩], none⟩ ?_ (.inl ⟨by rfl, ?_⟩) hS ?_
  rotate_left
  · (intro w hSw; (try dsimp only at hSw); go_simp; (try with_reducible rfl))
  try simp only [Act.put, sb, s0, sz]
  refine takeW 17 ⟨some 43, .move (.tmp 42), 4, "law.go:19", #[⟨16, .data⟩, ⟨15, .chain⟩], none⟩ ?_ (.inl ⟨by rfl, ?_⟩) hS ?_
  rotate_left
  · (intro w hSw; (try dsimp only at hSw); go_simp; (try with_reducible rfl))
  try simp only [Act.put, sb, s0, sz]
  refine takeW 18 ⟨some 44, .move (.tmp 7), 29, "law.go:19", #[⟨17, .guard⟩], some (17, true)⟩ ?_ (.inl ⟨by rfl, ?_⟩) hS ?_
  rotate_left
  · (intro w hSw; (try dsimp only at hSw); go_simp; (try with_reducible rfl))
  try simp only [Act.put, sb, s0, sz]
  refine takeW 19 ⟨some 45, .binOp .eql 29 (.tmp 44) (.const (.int .i64 3)) 29, 4, "law.go:19", #[⟨18, .data⟩, ⟨17, .guard⟩], some (17, true)⟩ ?_ (.inl ⟨by rfl, ?_⟩) hS ?_
  rotate_left
  · (intro w hSw; (try dsimp only at hSw); go_simp; (try with_reducible rfl))
  try simp only [Act.put, sb, s0, sz]
  refine takeW 20 ⟨some 46, .pick (.tmp 43) (.tmp 45) (.const (.bool false)), 4, "law.go:19", #[⟨17, .data⟩, ⟨19, .data⟩], none⟩ ?_ (.inl ⟨by rfl, ?_⟩) hS ?_
  rotate_left
  · (intro w hSw; (try dsimp only at hSw); go_simp; (try with_reducible rfl))
  try simp only [Act.put, sb, s0, sz]
  refine takeW 21 ⟨some 0, .assign (.tmp 46), 4, "law.go:19", #[⟨20, .data⟩, ⟨17, .chain⟩, ⟨0, .phase⟩, ⟨1, .phase⟩, ⟨2, .phase⟩, ⟨3, .phase⟩, ⟨4, .phase⟩, ⟨5, .phase⟩, ⟨6, .phase⟩, ⟨7, .phase⟩, ⟨8, .phase⟩, ⟨9, .phase⟩, ⟨10, .phase⟩, ⟨11, .phase⟩, ⟨12, .phase⟩, ⟨13, .phase⟩, ⟨14, .phase⟩, ⟨15, .phase⟩, ⟨16, .phase⟩, ⟨17, .phase⟩, ⟨18, .phase⟩, ⟨19, .phase⟩, ⟨20, .phase⟩], none⟩ ?_ (.inl ⟨by rfl, ?_⟩) hS ?_
  rotate_left
  · (intro w hSw; (try dsimp only at hSw); go_simp; (try with_reducible rfl))
  try simp only [Act.put, sb, s0, sz]
  refine wpAnyH_done (by kernel_rfl) ?_ _
  all_goals
    replace hE := hO.tail.drop.tail.drop
    clear hO hS hN hR
    go_wp2
    go_ret
    exact ⟨_, rfl, rfl, hE.tail.tail.tail.drop.drop.drop.drop⟩
end Go.Proofs.YtjmllpgmbaoebaaDoor
namespace Go.Proofs.YtjmllpgmbaoebaaDoor
open Go.RowKit Go.SL

theorem digit_any (n : Nat) (hn : n < 256) (w : World) : Calls Tryd.prog 41 #[.int .u8 n] w fun e w' => e = .returned (.int .u8 (hexd (n % 16)).toNat) ∧ w' = w := by
  obtain ⟨d, hd⟩ : ∃ d, n % 16 = d := ⟨_, rfl⟩
  have hd2 : (n : Int) % 16 = (d : Int) := by omega
  have hd3 : Int.tmod (n : Int) 16 = (d : Int) := by rw [Int.tmod_eq_emod_of_nonneg (by omega)]; exact hd2
  have hd16 : d < 16 := by omega
  have hd16i : (d : Int) < 16 := by omega
  have gd := dig_at d hd16
  rw [hd]
  generalize hexd d = x at *
  go_enter Tryd.func41, Tryd.ntmps41
  go_wp2
  go_ret
  exact ⟨rfl, rfl⟩
def VlRel (c : UInt8) (i : Value) : Prop := ∃ k : Nat, k ≤ 16 ∧ i = .int .i64 k ∧ ∀ j, j < k → hexd j ≠ c
set_option maxRecDepth 100000 in
theorem value_any (c : UInt8) (w : World) : Calls Tryd.prog 40 #[.int .u8 c.toNat] w fun e w' => e = .returned (.int .i64 (valP c)) ∧ w' = w := by
  go_enter Tryd.func40, Tryd.ntmps40
  go_wp2
  go_loop [3] (fun i => VlRel c i) (fun i => 16 - (intOf i).toNat)
  case atStart => exact ⟨0, by omega, rfl, fun j h => absurd h (Nat.not_lt_zero j)⟩
  case round =>
    obtain ⟨k, hk, rfl, hin⟩ := hrel
    have Hin := SL.hid hin
    clear hin
    by_cases hlt : k < 16
    · have hlti : (k : Int) < 16 := by omega
      have hwk : IntKind.u8.wrap (k : Int) = (k : Int) := by
        simp only [IntKind.wrap, IntKind.bits, IntKind.signed]
        simp
        omega
      have hD := SL.hid (digit_any k (by omega))
      rw [show k % 16 = k by omega] at hD
      cases he : (((hexd k).toNat : Int) == (c.toNat : Int)) with
      | true =>
        have e : hexd k = c := by
          rw [← UInt8.toNat_inj]
          have : ((hexd k).toNat : Int) = (c.toNat : Int) := by simpa using he
          omega
        have R := SL.hid (show valP c = k by rw [← e, val_hexN hlt])
        clear e
        generalize hexd k = x at *
        go_wp2_with (first
          | go_skip
          | (go_at_call 41; refine (hD.out _).mono ?_; rintro e w2 ⟨rfl, rfl⟩))
        go_ret
        exact ⟨by rw [R.out]; rfl, rfl⟩
      | false =>
        have e : hexd k ≠ c := by
          rintro rfl
          simp at he
        have He := SL.hid e
        clear e
        generalize hx0 : hexd k = x at *
        have Hx0 := SL.hid hx0
        clear hx0
        go_wp2_with (first
          | go_skip
          | (go_at_call 41; refine (hD.out _).mono ?_; rintro e w2 ⟨rfl, rfl⟩))
        go_round
        case rel =>
          refine ⟨k + 1, by omega, by simp, fun j hj => ?_⟩
          rcases Nat.lt_or_eq_of_le (Nat.le_of_lt_succ hj) with h | rfl
          · exact Hin.out j h
          · rw [Hx0.out]; exact He.out
        case measure => simp [intOf]; omega
    · obtain rfl : k = 16 := by omega
      have R := SL.hid (show valP c = -1 by
        have h1 := val_lt c
        apply Classical.byContradiction
        intro h
        obtain ⟨h2, h3⟩ := val_ok (a := c) (by omega)
        exact Hin.out (valP c).toNat (by omega) h3)
      go_wp2
      go_ret
      exact ⟨by rw [R.out]; rfl, rfl⟩
def RqRel (s : List UInt8) (l : List HProp) (o i : Value) (wr : World) : Prop :=
  ∃ (k : Nat) (out : List UInt8), k ≤ s.length ∧ i = .int .i64 k ∧ out = 34 :: qi (s.take k) ∧ o = .string ⟨out.toArray⟩ ∧ Ent l wr
set_option maxRecDepth 100000 in
set_option maxHeartbeats 4000000 in
theorem rQuote_any {s : List UInt8} (hs : s.length ≤ 100000000) {l : List HProp} {w : World} (hE : Ent l w) :
    Calls Tryd.prog 24 #[.string ⟨s.toArray⟩] w (Ret fun v w' => v = .string ⟨(quoteP s).toArray⟩ ∧ Ent l w') := by
  go_enter Tryd.func24, Tryd.ntmps24
  go_wp2
  go_loopw [3, 4] (fun o i wr => RqRel s l o i wr) (fun _ i _ => s.length - (intOf i).toNat)
  case atStart => exact ⟨0, [34], Nat.zero_le _, rfl, rfl, rfl, hE⟩
  case round =>
    clear hE
    obtain ⟨k, out, hkl, rfl, hout, rfl, hE⟩ := hrel
    have hol : out.length ≤ 400000001 := by
      have h1 := (qi_len (s.take k)).2
      have h2 : (s.take k).length = k := by rw [List.length_take]; omega
      rw [hout, List.length_cons]
      omega
    by_cases hlt : k < s.length
    · have hix := str_at s k (by rw [bytes_size]; exact hlt)
      have Hst := SL.hid (qu_step hlt)
      rw [← hout] at Hst
      have hwk : wrap64 ((k : Int) + 1) = ((k + 1 : Nat) : Int) := by unfold wrap64; omega
      have hwi : IntKind.i64.wrap ((k : Int) + 1) = ((k + 1 : Nat) : Int) := by
        simp only [IntKind.wrap, IntKind.bits, IntKind.signed]
        simp
        omega
      have hk1 : (k : Int) ≤ ((k + 1 : Nat) : Int) := by omega
      have hk2 : ((k + 1 : Nat) : Int) ≤ (s.length : Int) := by omega
      have hex : (⟨s.toArray⟩ : ByteArray).extract k (k + 1) = ⟨[s.getD k 0].toArray⟩ := by
        rw [extract_mk, show k + 1 - k = 1 by omega]
        congr 2
        rw [List.drop_eq_getElem_cons hlt, List.take_succ_cons, List.take_zero, List.getD_eq_getElem?_getD, List.getElem?_eq_getElem hlt]
        rfl
      clear hout
      generalize s.getD k 0 = x at *
      have Hx := SL.hid x.toNat_lt
      obtain ⟨n, hn⟩ : ∃ n, x.toNat = n := ⟨_, rfl⟩
      have Hn := SL.hid hn
      have Eq1 := SL.hid (show (n : Int) = 34 ∨ (n : Int) = 92 → qc x = [92, x] by
        intro h
        have : x = 34 ∨ x = 92 := by
          rcases h with h | h
          · left; rw [← UInt8.toNat_inj, hn]; show n = 34; omega
          · right; rw [← UInt8.toNat_inj, hn]; show n = 92; omega
        rw [qc, if_pos this])
      have Eq0 := SL.hid (show ((n : Int) == 34) = false → ((n : Int) == 92) = false → ¬ (x = 34 ∨ x = 92) by
        rintro h1 h2 (rfl | rfl)
        · rw [← hn] at h1; exact absurd h1 (by decide)
        · rw [← hn] at h2; exact absurd h2 (by decide))
      obtain ⟨p1, hp1, hj1, hc1⟩ := cat2 out [92] (by simp only [List.length_cons, List.length_nil]; omega)
      obtain ⟨p2, hp2, hj2, hc2⟩ := cat2 p1 [x] (by rw [hp1]; simp only [List.length_append, List.length_cons, List.length_nil]; omega)
      obtain ⟨p3, hp3, hj3, hc3⟩ := cat2 out [x] (by simp only [List.length_cons, List.length_nil]; omega)
      have hl1 : p1.length = out.length + 1 := by rw [hp1]; simp
      simp only [List.length_cons, List.length_nil, Nat.zero_add] at hc1 hc2 hc3
      have Hp2 := SL.hid (show p2 = out ++ [92, x] by rw [hp2, hp1]; simp)
      have Hp3 := SL.hid hp3
      clear hp1 hp2 hp3
      cases h1 : ((n : Int) == 34) with
      | true =>
        have Hq := SL.hid (Eq1.out (.inl (by simpa using h1)))
        go_wp2
        go_roundw
        case measure => simp [intOf] <;> omega
        case rel => exact ⟨k + 1, p2, hlt, by first | rfl | simp, by rw [Hst.out, Hq.out, Hp2.out], rfl, hE⟩
      | false =>
        cases h2 : ((n : Int) == 92) with
        | true =>
          have Hq := SL.hid (Eq1.out (.inr (by simpa using h2)))
          go_wp2
          go_roundw
          case measure => simp [intOf] <;> omega
          case rel => exact ⟨k + 1, p2, hlt, by first | rfl | simp, by rw [Hst.out, Hq.out, Hp2.out], rfl, hE⟩
        | false =>
          have Hno := SL.hid (Eq0.out h1 h2)
          have hn256 : n < 256 := by rw [← hn]; exact Hx.out
          have HD1 := SL.hid (digit_any (n / 16) (by omega))
          have HD2 := SL.hid (digit_any n hn256)
          rw [show n / 16 % 16 = n / 16 by omega] at HD1
          have hq1 : Int.tdiv (n : Int) 16 = ((n / 16 : Nat) : Int) := by rw [Int.tdiv_eq_ediv_of_nonneg (by omega)]; omega
          have hq2 : (n : Int) / 16 = ((n / 16 : Nat) : Int) := by omega
          obtain ⟨p4, hp4, hj4, hc4⟩ := cat2 out [92, 120] (by simp only [List.length_cons, List.length_nil]; omega)
          obtain ⟨p5, hp5, hj5, hc5⟩ := cat2 p4 [hexd (n / 16), hexd (n % 16)] (by rw [hp4]; simp only [List.length_append, List.length_cons, List.length_nil]; omega)
          have hl4 : p4.length = out.length + 2 := by rw [hp4]; simp
          have Hp5 := SL.hid (show p5 = out ++ [92, 120, hexd (n / 16), hexd (n % 16)] by rw [hp5, hp4]; simp)
          simp only [List.length_cons, List.length_nil, Nat.zero_add, Nat.reduceAdd] at hc4 hc5
          clear hp4 hp5
          have HexCase := SL.hid (fun h : n < 32 ∨ 126 < n => show qc x = [92, 120, hexd (n / 16), hexd (n % 16)] by rw [qc, if_neg Hno.out, hn, if_pos h])
          have PlainCase := SL.hid (fun h : ¬ (n < 32 ∨ 126 < n) => show qc x = [x] by rw [qc, if_neg Hno.out, hn, if_neg h])
          obtain ⟨xd, hxd⟩ : ∃ xd, hexd (n / 16) = xd := ⟨_, rfl⟩
          obtain ⟨xe, hxe⟩ : ∃ xe, hexd (n % 16) = xe := ⟨_, rfl⟩
          rw [hxd] at HD1 HexCase Hp5 hj5
          rw [hxe] at HD2 HexCase Hp5 hj5
          obtain ⟨d, hd⟩ : ∃ d, n / 16 = d := ⟨_, rfl⟩
          rw [hd] at HD1 hq1 hq2
          clear hd hxd hxe
          cases h3 : decide ((32 : Int) ≤ (n : Int)) with
          | false =>
            have Hq := SL.hid (HexCase.out (.inl (by have := of_decide_eq_false h3; omega)))
            go_wp2_with (first
              | go_skip
              | (go_at_call 41; refine (HD1.out _).mono ?_; clear HD1; rintro e w2 ⟨rfl, rfl⟩)
              | (go_at_call 41; refine (HD2.out _).mono ?_; rintro e w2 ⟨rfl, rfl⟩)
              | ((with_reducible (show Go.wpList _ _ _ (Go.Oper.mk _ (.convert _ _ _) _ _ _ _ :: _) _ _)); have hE9 := hE.alloc (.cells #[.int .u8 xd.toNat, .int .u8 xe.toNat] 5); refine wpl_bytesStr (bs := [xd, xe]) rfl rfl rfl Tryd.underlying75 Tryd.underlying5 Tryd.underlying9 (reads_pt hE9 0 rfl (off := 0) (fun j u hu => by rw [Nat.zero_add, List.getElem?_toArray]; exact hu)) rfl ?_; replace hE := hE9.tail; clear hE9))
            go_roundw
            case measure => simp [intOf] <;> omega
            case rel => exact ⟨k + 1, p5, hlt, by first | rfl | simp, by rw [Hst.out, Hq.out, Hp5.out], rfl, hE⟩
          | true =>
            cases h4 : decide ((n : Int) < 127) with
            | false =>
              have Hq := SL.hid (HexCase.out (.inr (by have := of_decide_eq_false h4; omega)))
              go_wp2_with (first
                | go_skip
                | (go_at_call 41; refine (HD1.out _).mono ?_; clear HD1; rintro e w2 ⟨rfl, rfl⟩)
                | (go_at_call 41; refine (HD2.out _).mono ?_; rintro e w2 ⟨rfl, rfl⟩)
                | ((with_reducible (show Go.wpList _ _ _ (Go.Oper.mk _ (.convert _ _ _) _ _ _ _ :: _) _ _)); have hE9 := hE.alloc (.cells #[.int .u8 xd.toNat, .int .u8 xe.toNat] 5); refine wpl_bytesStr (bs := [xd, xe]) rfl rfl rfl Tryd.underlying75 Tryd.underlying5 Tryd.underlying9 (reads_pt hE9 0 rfl (off := 0) (fun j u hu => by rw [Nat.zero_add, List.getElem?_toArray]; exact hu)) rfl ?_; replace hE := hE9.tail; clear hE9))
              go_roundw
              case measure => simp [intOf] <;> omega
              case rel => exact ⟨k + 1, p5, hlt, by first | rfl | simp, by rw [Hst.out, Hq.out, Hp5.out], rfl, hE⟩
            | true =>
              have Hq := SL.hid (PlainCase.out (by have := of_decide_eq_true h3; have := of_decide_eq_true h4; omega))
              go_wp2
              go_roundw
              case measure => simp [intOf] <;> omega
              case rel => exact ⟨k + 1, p3, hlt, by first | rfl | simp, by rw [Hst.out, Hq.out, Hp3.out], rfl, hE⟩
    · obtain rfl : k = s.length := by omega
      obtain ⟨p1, hp1, hj1, hc1⟩ := cat2 out [34] (by simp only [List.length_cons, List.length_nil]; omega)
      have Hfin := SL.hid (show quoteP s = p1 by rw [hp1, hout, List.take_length]; rfl)
      simp only [List.length_cons, List.length_nil, Nat.zero_add] at hc1
      clear hout hp1
      go_wp2
      go_ret
      exact ⟨_, rfl, by rw [Hfin.out]; rfl, hE⟩
end Go.Proofs.YtjmllpgmbaoebaaDoor
namespace Go.Proofs.YtjmllpgmbaoebaaDoor
open Go.RowKit Go.SL

theorem inner_at {s : List UInt8} {i d : Nat} (hi : 1 ≤ i) (h : i + d < s.length - 1) : ((inner s).drop (i - 1)).getD d 0 = s.getD (i + d) 0 := by
  simp only [inner, List.getD_eq_getElem?_getD, List.getElem?_drop, List.getElem?_take]
  rw [if_pos (by omega), show 1 + (i - 1 + d) = i + d by omega]
theorem inner_len (s : List UInt8) (i : Nat) (hi : 1 ≤ i) : ((inner s).drop (i - 1)).length = s.length - 1 - i := by
  simp [inner]
  omega
theorem one_at {s : List UInt8} {k : Nat} (h : k < s.length) : (⟨s.toArray⟩ : ByteArray).extract k (k + 1) = ⟨[s.getD k 0].toArray⟩ := by
  rw [extract_mk, show k + 1 - k = 1 by omega]
  congr 2
  rw [List.drop_eq_getElem_cons h, List.take_succ_cons, List.take_zero, List.getD_eq_getElem?_getD, List.getElem?_eq_getElem h]
  rfl
theorem wrapN {k : Nat} (h : k < 1000000000) : wrap64 (k : Int) = (k : Int) ∧ IntKind.i64.wrap (k : Int) = (k : Int) := by
  refine ⟨by unfold wrap64; omega, ?_⟩
  simp only [IntKind.wrap, IntKind.bits, IntKind.signed]
  simp
  omega
theorem addw {k n : Nat} (h : k < 100000001) (hn : n ≤ 100000000) (h2 : 1 ≤ n) : (wrap64 ((n : Int) - 1) = ((n - 1 : Nat) : Int) ∧ IntKind.i64.wrap ((n : Int) - 1) = ((n - 1 : Nat) : Int)) ∧ (wrap64 ((k : Int) + 1) = ((k + 1 : Nat) : Int) ∧ IntKind.i64.wrap ((k : Int) + 1) = ((k + 1 : Nat) : Int)) ∧ (wrap64 ((k : Int) + 2) = ((k + 2 : Nat) : Int) ∧ IntKind.i64.wrap ((k : Int) + 2) = ((k + 2 : Nat) : Int)) ∧ (wrap64 ((k : Int) + 3) = ((k + 3 : Nat) : Int) ∧ IntKind.i64.wrap ((k : Int) + 3) = ((k + 3 : Nat) : Int)) ∧ (wrap64 ((k : Int) + 4) = ((k + 4 : Nat) : Int) ∧ IntKind.i64.wrap ((k : Int) + 4) = ((k + 4 : Nat) : Int)) := by
  refine ⟨?_, ?_, ?_, ?_, ?_⟩
  all_goals
    refine ⟨by unfold wrap64; omega, ?_⟩
    simp only [IntKind.wrap, IntKind.bits, IntKind.signed]
    simp
    omega
theorem addi {k : Nat} (h : k < 100000001) : IntKind.i64.wrap ((k : Int) + 2) = (k : Int) + 2 ∧ IntKind.i64.wrap ((k : Int) + 3) = (k : Int) + 3 := by
  refine ⟨?_, ?_⟩
  all_goals
    simp only [IntKind.wrap, IntKind.bits, IntKind.signed]
    simp
    omega
def RuRel (s : List UInt8) (l : List HProp) (o i : Value) (wr : World) : Prop :=
  ∃ (n k : Nat) (out : List UInt8), 1 ≤ k ∧ k ≤ s.length - 1 ∧ o = .string ⟨out.toArray⟩ ∧ i = .int .i64 k ∧ sdec s.length (inner s) = (sdec n ((inner s).drop (k - 1))).map (out ++ ·) ∧ ((inner s).drop (k - 1)).length ≤ n ∧ out.length ≤ k ∧ Ent l wr
theorem ru_next {s t out : List UInt8} {n : Nat} (h : sdec s.length (inner s) = (sdec n t).map (out ++ ·)) (hn : t.length ≤ n) (h0 : t ≠ []) {b : UInt8} {k : Nat} (hk : 1 ≤ k) (hs : sstep t = some (b, k)) :
    ∃ m, sdec s.length (inner s) = (sdec m (t.drop k)).map ((out ++ [b]) ++ ·) ∧ (t.drop k).length ≤ m := by
  have h1 : 0 < t.length := List.length_pos_iff.2 h0
  obtain ⟨m, rfl⟩ : ∃ m, n = m + 1 := ⟨n - 1, by omega⟩
  refine ⟨m, ?_, by rw [List.length_drop]; omega⟩
  rw [h, sdec, if_neg h0, hs]
  simp only [Option.map_map]
  congr 1
  funext x
  simp
theorem ru_fail {s t out : List UInt8} {n : Nat} (h : sdec s.length (inner s) = (sdec n t).map (out ++ ·)) (hn : t.length ≤ n) (h0 : t ≠ []) (hs : sstep t = none) : sdec s.length (inner s) = none := by
  have h1 : 0 < t.length := List.length_pos_iff.2 h0
  obtain ⟨m, rfl⟩ : ∃ m, n = m + 1 := ⟨n - 1, by omega⟩
  rw [sdec, if_neg h0, hs] at h
  rw [h]
  rfl
set_option maxRecDepth 100000 in
set_option maxHeartbeats 8000000 in
theorem rUnquote_any {s : List UInt8} (hs : s.length ≤ 100000000) {l : List HProp} {w : World} (hE : Ent l w) :
    Calls Tryd.prog 22 #[.string ⟨s.toArray⟩] w (Ret fun v w' => v = unqV (sunq s) ∧ Ent l w') := by
  cases h2 : decide ((s.length : Int) < 2) with
  | true =>
    have R := SL.hid (show sunq s = none by rw [sunq, if_pos (.inl (by have := of_decide_eq_true h2; omega))])
    go_enter Tryd.func22, Tryd.ntmps22
    go_wp2
    go_ret2
    exact ⟨_, rfl, by rw [R.out]; rfl, hE⟩
  | false =>
    have hs2 : 2 ≤ s.length := by have := of_decide_eq_false h2; omega
    have hw1 : wrap64 ((s.length : Int) - 1) = ((s.length - 1 : Nat) : Int) := by unfold wrap64; omega
    have hwi : IntKind.i64.wrap ((s.length : Int) - 1) = ((s.length - 1 : Nat) : Int) := by
      simp only [IntKind.wrap, IntKind.bits, IntKind.signed]
      simp
      omega
    have hix0 := str_at s 0 (by rw [bytes_size]; omega)
    have hixl := str_at s (s.length - 1) (by rw [bytes_size]; omega)
    have hpos : (0 : Int) < (s.length : Int) := by omega
    have hpos2 : 0 < s.length := by omega
    have hll : ((s.length - 1 : Nat) : Int) < (s.length : Int) := by omega
    have hll2 : s.length - 1 < s.length := by omega
    have Hs2 := SL.hid hs2
    cases h3 : (((s.getD 0 0).toNat : Int) != 34) with
    | true =>
      have R := SL.hid (show sunq s = none by rw [sunq, if_pos (.inr (.inl (by intro e; rw [e] at h3; exact absurd h3 (by decide))))])
      generalize s.getD 0 0 = x0 at *
      go_enter Tryd.func22, Tryd.ntmps22
      go_wp2
      go_ret2
      exact ⟨_, rfl, by rw [R.out]; rfl, hE⟩
    | false =>
      cases h4 : (((s.getD (s.length - 1) 0).toNat : Int) != 34) with
      | true =>
        have R := SL.hid (show sunq s = none by rw [sunq, if_pos (.inr (.inr (by intro e; rw [e] at h4; exact absurd h4 (by decide))))])
        generalize s.getD 0 0 = x0 at *
        generalize s.getD (s.length - 1) 0 = x1 at *
        go_enter Tryd.func22, Tryd.ntmps22
        go_wp2
        go_ret2
        exact ⟨_, rfl, by rw [R.out]; rfl, hE⟩
      | false =>
        have to34 : ∀ x : UInt8, ((x.toNat : Int) != 34) = false → x = 34 := by
          intro x h
          rw [← UInt8.toNat_inj]
          have : (x.toNat : Int) = 34 := by simpa using h
          show x.toNat = 34
          omega
        have Hsu := SL.hid (show sunq s = sdec s.length (inner s) by
          rw [sunq, if_neg]
          have := Hs2.out
          rintro (h | h | h)
          · omega
          · exact h (to34 _ h3)
          · exact h (to34 _ h4))
        clear to34
        generalize s.getD 0 0 = x0 at *
        generalize s.getD (s.length - 1) 0 = x1 at *
        go_enter Tryd.func22, Tryd.ntmps22
        go_wp2
        go_loopw [4, 5] (fun o i wr => RuRel s l o i wr) (fun _ i _ => s.length - (intOf i).toNat)
        case atStart => exact ⟨s.length, 1, [], Nat.le_refl _, by have := Hs2.out; omega, rfl, rfl, by simp only [Nat.sub_self, List.drop_zero]; cases sdec s.length (inner s) <;> simp, by simp only [Nat.sub_self, List.drop_zero]; simp [inner]; omega, by simp, hE⟩
        case round =>
          clear hE hix0 hixl h3 h4 h2
          obtain ⟨n, k, out, hk1, hkl, rfl, rfl, hdec, hn, hol, hE⟩ := hrel
          have hlen := inner_len s k hk1
          have Hat := SL.hid (fun (d : Nat) (h : k + d < s.length - 1) => inner_at hk1 h)
          have Hdr := SL.hid (fun d => show (inner s).drop (k + d - 1) = ((inner s).drop (k - 1)).drop d by rw [List.drop_drop]; congr 1; omega)
          generalize (inner s).drop (k - 1) = t at *
          clear hw1 hwi
          by_cases hlt : k < s.length - 1
          · have hlti : (k : Int) < (s.length : Int) - 1 := by omega
            have h0 : t ≠ [] := by rintro rfl; simp at hlen; omega
            have Hfail := SL.hid (ru_fail hdec hn h0)
            have Hnext := SL.hid (fun (b : UInt8) (d : Nat) (hd : 1 ≤ d) => ru_next hdec hn h0 (b := b) hd)
            have Hstep := SL.hid (show sstep t = (if t.getD 0 0 ≠ 92 then (if (t.getD 0 0).toNat < 32 ∨ 126 < (t.getD 0 0).toNat ∨ t.getD 0 0 = 34 then none else some (t.getD 0 0, 1)) else if t.length ≤ 1 then none else if t.getD 1 0 = 34 ∨ t.getD 1 0 = 92 then some (t.getD 1 0, 2) else if t.getD 1 0 ≠ 120 ∨ t.length ≤ 3 then none else if valP (t.getD 2 0) < 0 ∨ valP (t.getD 3 0) < 0 ∨ (32 ≤ 16 * valP (t.getD 2 0) + valP (t.getD 3 0) ∧ 16 * valP (t.getD 2 0) + valP (t.getD 3 0) < 127) then none else some (hx (t.getD 2 0) (t.getD 3 0), 4)) from rfl)
            rw [Hat.out 0 (by omega), Nat.add_zero] at Hstep
            have hkl2 : k < s.length := by omega
            have hkli : (k : Int) < (s.length : Int) := by omega
            have hix := str_at s k (by rw [bytes_size]; omega)
            clear hdec hn h0
            have one1 := one_at (s := s) (k := k) (by omega)
            have q1 : (k : Int) ≤ (k : Int) + 1 := by omega
            have q2 : (k : Int) + 1 ≤ (s.length : Int) := by omega
            generalize s.getD k 0 = c at *
            have tr92 : ((c.toNat : Int) != 92) = true → c ≠ 92 := by rintro h rfl; exact absurd h (by decide)
            have fa92 : ((c.toNat : Int) != 92) = false → c = 92 := by
              intro h
              rw [← UInt8.toNat_inj]
              have : (c.toNat : Int) = 92 := by simpa using h
              show c.toNat = 92
              omega
            have tr34 : ((c.toNat : Int) == 34) = true → c = 34 := by
              intro h
              rw [← UInt8.toNat_inj]
              have : (c.toNat : Int) = 34 := by simpa using h
              show c.toNat = 34
              omega
            have fa34 : ((c.toNat : Int) == 34) = false → c ≠ 34 := by rintro h rfl; exact absurd h (by decide)
            have T92 := SL.hid tr92
            have F92 := SL.hid fa92
            have T34 := SL.hid tr34
            have F34 := SL.hid fa34
            clear tr92 fa92 tr34 fa34
            cases h5 : ((c.toNat : Int) != 92) with
            | true =>
              rw [if_pos (T92.out h5)] at Hstep
              have Hfit := SL.hid hlt
              cases h6 : decide ((c.toNat : Int) < 32) with
              | true =>
                rw [if_pos (.inl (by have := of_decide_eq_true h6; omega))] at Hstep
                have R := SL.hid (show sunq s = none by rw [Hsu.out]; exact Hfail.out Hstep.out)
                clear Hstep
                go_wp2
                go_ret2
                exact ⟨_, rfl, by rw [R.out]; rfl, hE⟩
              | false =>
                cases h7 : decide ((126 : Int) < (c.toNat : Int)) with
                | true =>
                  rw [if_pos (.inr (.inl (by have := of_decide_eq_true h7; omega)))] at Hstep
                  have R := SL.hid (show sunq s = none by rw [Hsu.out]; exact Hfail.out Hstep.out)
                  clear Hstep
                  go_wp2
                  go_ret2
                  exact ⟨_, rfl, by rw [R.out]; rfl, hE⟩
                | false =>
                  cases h8 : ((c.toNat : Int) == 34) with
                  | true =>
                    rw [if_pos (.inr (.inr (T34.out h8)))] at Hstep
                    have R := SL.hid (show sunq s = none by rw [Hsu.out]; exact Hfail.out Hstep.out)
                    clear Hstep
                    go_wp2
                    go_ret2
                    exact ⟨_, rfl, by rw [R.out]; rfl, hE⟩
                  | false =>
                    rw [if_neg (by
                      have := of_decide_eq_false h6
                      have := of_decide_eq_false h7
                      rintro (h | h | h)
                      · omega
                      · omega
                      · exact F34.out h8 h)] at Hstep
                    obtain ⟨m, hm1, hm2⟩ := Hnext.out c 1 (by omega) Hstep.out
                    rw [← Hdr.out 1] at hm1 hm2
                    have Hm := SL.hid (And.intro hm1 hm2)
                    clear hm1 hm2 Hstep
                    obtain ⟨pc, hpc, hjpc, hcpc⟩ := cat2 out [c] (by simp only [List.length_cons, List.length_nil]; omega)
                    simp only [List.length_cons, List.length_nil, Nat.zero_add] at hcpc
                    have Hpc := SL.hid hpc
                    clear hpc
                    go_wp2
                    go_roundw
                    case measure => simp [intOf] <;> omega
                    case rel => exact ⟨m, k + 1, pc, by omega, by have := Hfit.out; omega, rfl, by first | rfl | simp, by rw [Hpc.out]; exact Hm.out.1, Hm.out.2, by rw [Hpc.out]; simp; omega, hE⟩
            | false =>
              rw [if_neg (by rw [F92.out h5]; simp)] at Hstep
              cases h6 : decide ((s.length : Int) - 1 ≤ (k : Int) + 1) with
              | true =>
                have h6a : s.length - 1 ≤ k + 1 := by have := of_decide_eq_true h6; omega
                rw [if_pos (by omega)] at Hstep
                have R := SL.hid (show sunq s = none by rw [Hsu.out]; exact Hfail.out Hstep.out)
                clear Hstep
                go_wp2
                go_ret2
                exact ⟨_, rfl, by rw [R.out]; rfl, hE⟩
              | false =>
                have h6a : ¬ s.length - 1 ≤ k + 1 := by have := of_decide_eq_false h6; omega
                rw [if_neg (by omega), Hat.out 1 (by omega)] at Hstep
                have hix1 := str_at s (k + 1) (by rw [bytes_size]; omega)
                have hk11 : k + 1 < s.length := by omega
                have hk11i : (k : Int) + 1 < (s.length : Int) := by omega
                have one2 := one_at (s := s) (k := k + 1) (by omega)
                have q3 : (k : Int) + 1 ≤ (k : Int) + 2 := by omega
                have q4 : (k : Int) + 2 ≤ (s.length : Int) := by omega
                generalize s.getD (k + 1) 0 = d at *
                have one2' : (⟨s.toArray⟩ : ByteArray).extract (k + 1) (k + 2) = ⟨[d].toArray⟩ := one2
                clear one2
                have Hfit := SL.hid h6a
                have td34 : ((d.toNat : Int) == 34) = true → d = 34 := by
                  intro h
                  rw [← UInt8.toNat_inj]
                  have : (d.toNat : Int) = 34 := by simpa using h
                  show d.toNat = 34
                  omega
                have td92 : ((d.toNat : Int) == 92) = true → d = 92 := by
                  intro h
                  rw [← UInt8.toNat_inj]
                  have : (d.toNat : Int) = 92 := by simpa using h
                  show d.toNat = 92
                  omega
                have fd : ((d.toNat : Int) == 34) = false → ((d.toNat : Int) == 92) = false → ¬ (d = 34 ∨ d = 92) := by
                  rintro h1 h2 (rfl | rfl)
                  · exact absurd h1 (by decide)
                  · exact absurd h2 (by decide)
                have TD34 := SL.hid td34
                have TD92 := SL.hid td92
                have FD := SL.hid fd
                clear td34 td92 fd
                cases h7 : ((d.toNat : Int) == 34) with
                | true =>
                  rw [if_pos (.inl (TD34.out h7))] at Hstep
                  obtain ⟨m, hm1, hm2⟩ := Hnext.out d 2 (by omega) Hstep.out
                  rw [← Hdr.out 2] at hm1 hm2
                  have Hm := SL.hid (And.intro hm1 hm2)
                  clear hm1 hm2 Hstep
                  obtain ⟨pd, hpd, hjpd, hcpd⟩ := cat2 out [d] (by simp only [List.length_cons, List.length_nil]; omega)
                  simp only [List.length_cons, List.length_nil, Nat.zero_add] at hcpd
                  have Hpd := SL.hid hpd
                  clear hpd
                  go_wp2
                  go_roundw
                  case measure => simp [intOf] <;> omega
                  case rel => exact ⟨m, k + 2, pd, by omega, by have := Hfit.out; omega, rfl, by first | rfl | simp, by rw [Hpd.out]; exact Hm.out.1, Hm.out.2, by rw [Hpd.out]; simp; omega, hE⟩
                | false =>
                  cases h8 : ((d.toNat : Int) == 92) with
                  | true =>
                    rw [if_pos (.inr (TD92.out h8))] at Hstep
                    obtain ⟨m, hm1, hm2⟩ := Hnext.out d 2 (by omega) Hstep.out
                    rw [← Hdr.out 2] at hm1 hm2
                    have Hm := SL.hid (And.intro hm1 hm2)
                    clear hm1 hm2 Hstep
                    obtain ⟨pd, hpd, hjpd, hcpd⟩ := cat2 out [d] (by simp only [List.length_cons, List.length_nil]; omega)
                    simp only [List.length_cons, List.length_nil, Nat.zero_add] at hcpd
                    have Hpd := SL.hid hpd
                    clear hpd
                    go_wp2
                    go_roundw
                    case measure => simp [intOf] <;> omega
                    case rel => exact ⟨m, k + 2, pd, by omega, by have := Hfit.out; omega, rfl, by first | rfl | simp, by rw [Hpd.out]; exact Hm.out.1, Hm.out.2, by rw [Hpd.out]; simp; omega, hE⟩
                  | false =>
                    rw [if_neg (FD.out h7 h8)] at Hstep
                    clear one2' one1
                    cases h9 : ((d.toNat : Int) != 120) with
                    | true =>
                      rw [if_pos (.inl (by rintro rfl; exact absurd h9 (by decide)))] at Hstep
                      have R := SL.hid (show sunq s = none by rw [Hsu.out]; exact Hfail.out Hstep.out)
                      clear Hstep
                      go_wp2
                      go_ret2
                      exact ⟨_, rfl, by rw [R.out]; rfl, hE⟩
                    | false =>
                      have hd120 : d = 120 := by
                        rw [← UInt8.toNat_inj]
                        have : (d.toNat : Int) = 120 := by simpa using h9
                        show d.toNat = 120
                        omega
                      have Hd120 := SL.hid hd120
                      clear hd120
                      cases h10 : decide ((s.length : Int) - 1 ≤ (k : Int) + 3) with
                      | true =>
                        rw [if_pos (.inr (by have := of_decide_eq_true h10; omega))] at Hstep
                        have R := SL.hid (show sunq s = none by rw [Hsu.out]; exact Hfail.out Hstep.out)
                        clear Hstep
                        go_wp2
                        go_ret2
                        exact ⟨_, rfl, by rw [R.out]; rfl, hE⟩
                      | false =>
                        have h10a : ¬ s.length - 1 ≤ k + 3 := by have := of_decide_eq_false h10; omega
                        rw [if_neg (by rintro (h | h); exact h Hd120.out; omega), Hat.out 2 (by omega), Hat.out 3 (by omega)] at Hstep
                        have hix2 := str_at s (k + 2) (by rw [bytes_size]; omega)
                        have hix3 := str_at s (k + 3) (by rw [bytes_size]; omega)
                        have hk22 : k + 2 < s.length := by omega
                        have hk22i : (k : Int) + 2 < (s.length : Int) := by omega
                        have hk33 : k + 3 < s.length := by omega
                        have hk33i : (k : Int) + 3 < (s.length : Int) := by omega
                        have Hfit4 := SL.hid h10a
                        have HV2 := SL.hid (value_any (s.getD (k + 2) 0))
                        have HV3 := SL.hid (value_any (s.getD (k + 3) 0))
                        have hb1 := val_lt (s.getD (k + 2) 0)
                        have hb2 := val_lt (s.getD (k + 3) 0)
                        have Hxy := SL.hid (show 0 ≤ valP (s.getD (k + 2) 0) → 0 ≤ valP (s.getD (k + 3) 0) → ((hx (s.getD (k + 2) 0) (s.getD (k + 3) 0)).toNat : Int) = 16 * valP (s.getD (k + 2) 0) + valP (s.getD (k + 3) 0) by
                          intro h1 h2
                          rw [hx, UInt8.toNat_ofNat']
                          omega)
                        generalize hx (s.getD (k + 2) 0) (s.getD (k + 3) 0) = xy at *
                        generalize valP (s.getD (k + 2) 0) = v1 at *
                        generalize valP (s.getD (k + 3) 0) = v2 at *
                        generalize s.getD (k + 2) 0 = a at *
                        generalize s.getD (k + 3) 0 = b at *
                        have Hb := SL.hid (And.intro hb1 hb2)
                        clear hb1 hb2
                        have z2 : (0 : Int) ≤ (k : Int) + 2 := by omega
                        have z3 : (0 : Int) ≤ (k : Int) + 3 := by omega
                        have n2 : ((k : Int) + 2).toNat = k + 2 := by omega
                        have n3 : ((k : Int) + 3).toNat = k + 3 := by omega
                        have Hi := SL.hid (addi (k := k) (by omega))
                        go_wp2
                        have i2 := Hi.out.1
                        have i3 := Hi.out.2
                        refine wp_region_held_drew (S := fun _ => True) (by kernel_rfl) trivial (fun hS => ?_)
                        refine takeW 0 ⟨some 92, .move (.tmp 0), 9, "ref.go:67", #[], none⟩ ?_ (.inl ⟨by rfl, ?_⟩) hS ?_
                        rotate_left
                        · (intro w hSw; (try dsimp only at hSw); go_simp; (try with_reducible rfl))
                        try simp only [Act.put, sb, s0, sz]
                        refine takeW 1 ⟨some 93, .move (.tmp 5), 3, "ref.go:67", #[], none⟩ ?_ (.inl ⟨by rfl, ?_⟩) hS ?_
                        rotate_left
                        · (intro w hSw; (try dsimp only at hSw); go_simp; (try with_reducible rfl))
                        try simp only [Act.put, sb, s0, sz]
                        refine takeW 2 ⟨some 94, .binOp .add 3 (.tmp 93) (.const (.int .i64 2)) 3, 3, "ref.go:67", #[⟨1, .data⟩], none⟩ ?_ (.inl ⟨by rfl, ?_⟩) hS ?_
                        rotate_left
                        · (intro w hSw; (try dsimp only at hSw); go_simp; (try with_reducible rfl))
                        try simp only [Act.put, sb, s0, sz]
                        refine takeW 3 ⟨some 95, .index 9 (.tmp 92) (.tmp 94), 5, "ref.go:67", #[⟨0, .data⟩, ⟨2, .data⟩], none⟩ ?_ (.inl ⟨by rfl, ?_⟩) hS ?_
                        rotate_left
                        · (intro w hSw; (try dsimp only at hSw); go_simp; (try with_reducible rfl))
                        try simp only [Act.put, sb, s0, sz]
                        refine takeW 5 ⟨some 97, .move (.tmp 0), 9, "ref.go:67", #[], none⟩ ?_ (.inl ⟨by rfl, ?_⟩) hS ?_
                        rotate_left
                        · (intro w hSw; (try dsimp only at hSw); go_simp; (try with_reducible rfl))
                        try simp only [Act.put, sb, s0, sz]
                        refine takeW 6 ⟨some 98, .move (.tmp 5), 3, "ref.go:67", #[], none⟩ ?_ (.inl ⟨by rfl, ?_⟩) hS ?_
                        rotate_left
                        · (intro w hSw; (try dsimp only at hSw); go_simp; (try with_reducible rfl))
                        try simp only [Act.put, sb, s0, sz]
                        refine takeW 7 ⟨some 99, .binOp .add 3 (.tmp 98) (.const (.int .i64 3)) 3, 3, "ref.go:67", #[⟨6, .data⟩], none⟩ ?_ (.inl ⟨by rfl, ?_⟩) hS ?_
                        rotate_left
                        · (intro w hSw; (try dsimp only at hSw); go_simp; (try with_reducible rfl))
                        try simp only [Act.put, sb, s0, sz]
                        refine takeW 8 ⟨some 100, .index 9 (.tmp 97) (.tmp 99), 5, "ref.go:67", #[⟨5, .data⟩, ⟨7, .data⟩], none⟩ ?_ (.inl ⟨by rfl, ?_⟩) hS ?_
                        rotate_left
                        · (intro w hSw; (try dsimp only at hSw); go_simp; (try with_reducible rfl))
                        try simp only [Act.put, sb, s0, sz]
                        refine wpAnyH_ready (rs := [4]) (by kernel_rfl) (by simp) ?_
                        refine (AllReadyH.cons (o := { dst := some 96, op := Go.Op.call { callee := Go.Callee.value (Go.Operand.func 40), args := #[Go.Operand.tmp 95], argTypes := #[5] }, type := 3, pos := "ref.go:67", after := #[{ on := 3, ground := Go.Ground.data }], guard := none }) rfl (fun K hK => ?_) AllReadyH.nil)
                        (go_simp; refine (HV2.out _).mono ?_; rintro e w3 ⟨rfl, rfl⟩)
                        refine hK.out _ _ trivial (fun hS => ?_)
                        clear hK K
                        try simp only [Act.put, sb, s0, sz]
                        refine wpAnyH_ready (rs := [9]) (by kernel_rfl) (by simp) ?_
                        refine (AllReadyH.cons (o := { dst := some 101, op := Go.Op.call { callee := Go.Callee.value (Go.Operand.func 40), args := #[Go.Operand.tmp 100], argTypes := #[5] }, type := 3, pos := "ref.go:67", after := #[{ on := 8, ground := Go.Ground.data }, { on := 4, ground := Go.Ground.chain }], guard := none }) rfl (fun K hK => ?_) AllReadyH.nil)
                        (go_simp; refine (HV3.out _).mono ?_; rintro e w4 ⟨rfl, rfl⟩)
                        refine hK.out _ _ trivial (fun hS => ?_)
                        clear hK K
                        try simp only [Act.put, sb, s0, sz]
                        refine takeW 10 ⟨some 8, .assign (.tmp 96), 3, "ref.go:67", #[⟨4, .data⟩, ⟨9, .chain⟩, ⟨0, .phase⟩, ⟨1, .phase⟩, ⟨2, .phase⟩, ⟨3, .phase⟩, ⟨4, .phase⟩, { on := 5, ground := Go.Ground.textOnly Go.Departure.lateStores }, { on := 6, ground := Go.Ground.textOnly Go.Departure.lateStores }, { on := 7, ground := Go.Ground.textOnly Go.Departure.lateStores }, { on := 8, ground := Go.Ground.textOnly Go.Departure.lateStores }, { on := 9, ground := Go.Ground.textOnly Go.Departure.lateStoresUnsure }], none⟩ ?_ (.inl ⟨by rfl, ?_⟩) hS ?_
                        rotate_left
                        · (intro w hSw; (try dsimp only at hSw); go_simp; (try with_reducible rfl))
                        try simp only [Act.put, sb, s0, sz]
                        refine takeW 11 ⟨some 9, .assign (.tmp 101), 3, "ref.go:67", #[⟨9, .data⟩, ⟨10, .chain⟩, ⟨0, .phase⟩, ⟨1, .phase⟩, ⟨2, .phase⟩, ⟨3, .phase⟩, ⟨4, .phase⟩, ⟨5, .phase⟩, ⟨6, .phase⟩, ⟨7, .phase⟩, ⟨8, .phase⟩, ⟨9, .phase⟩, ⟨10, .phase⟩], none⟩ ?_ (.inl ⟨by rfl, ?_⟩) hS ?_
                        rotate_left
                        · (intro w hSw; (try dsimp only at hSw); go_simp; (try with_reducible rfl))
                        try simp only [Act.put, sb, s0, sz]
                        refine wpAnyH_done (by kernel_rfl) ?_ _
                        all_goals
                          clear hS i2 i3 z2 z3 n2 n3
                          replace hE := hE.drew
                          have hb1 := Hb.out.1
                          have hb2 := Hb.out.2
                          have Hfit := Hfit4
                          clear hix hix1 hix2 hix3
                          have hxyl := xy.toNat_lt
                          cases h11 : decide (v1 < 0) with
                          | true =>
                            rw [if_pos (.inl (of_decide_eq_true h11))] at Hstep
                            have R := SL.hid (show sunq s = none by rw [Hsu.out]; exact Hfail.out Hstep.out)
                            clear Hstep
                            go_wp2
                            go_ret2
                            exact ⟨_, rfl, by rw [R.out]; rfl, hE⟩
                          | false =>
                            cases h12 : decide (v2 < 0) with
                            | true =>
                              rw [if_pos (.inr (.inl (of_decide_eq_true h12)))] at Hstep
                              have R := SL.hid (show sunq s = none by rw [Hsu.out]; exact Hfail.out Hstep.out)
                              clear Hstep
                              go_wp2
                              go_ret2
                              exact ⟨_, rfl, by rw [R.out]; rfl, hE⟩
                            | false =>
                              have hp1 : 0 ≤ v1 := by have := of_decide_eq_false h11; omega
                              have hp2 : 0 ≤ v2 := by have := of_decide_eq_false h12; omega
                              have e := Hxy.out hp1 hp2
                              have hval : IntKind.u8.wrap (16 * v1 + v2) = (xy.toNat : Int) := by
                                rw [← e]
                                simp only [IntKind.wrap, IntKind.bits, IntKind.signed]
                                simp
                                omega
                              clear e
                              cases h13 : decide (32 ≤ 16 * v1 + v2) with
                              | true =>
                                cases h14 : decide (16 * v1 + v2 < 127) with
                                | true =>
                                  rw [if_pos (.inr (.inr ⟨of_decide_eq_true h13, of_decide_eq_true h14⟩))] at Hstep
                                  have R := SL.hid (show sunq s = none by rw [Hsu.out]; exact Hfail.out Hstep.out)
                                  clear Hstep
                                  go_wp2
                                  go_ret2
                                  exact ⟨_, rfl, by rw [R.out]; rfl, hE⟩
                                | false =>
                                  rw [if_neg (by rintro (h | h | h); omega; omega; exact of_decide_eq_false h14 h.2)] at Hstep
                                  obtain ⟨m, hm1, hm2⟩ := Hnext.out xy 4 (by omega) Hstep.out
                                  rw [← Hdr.out 4] at hm1 hm2
                                  have Hm := SL.hid (And.intro hm1 hm2)
                                  clear hm1 hm2 Hstep
                                  obtain ⟨px, hpx, hjpx, hcpx⟩ := cat2 out [xy] (by simp only [List.length_cons, List.length_nil]; omega)
                                  simp only [List.length_cons, List.length_nil, Nat.zero_add] at hcpx
                                  have Hpx := SL.hid hpx
                                  clear hpx
                                  go_wp2_with (first | go_skip | ((with_reducible (show Go.wpList _ _ _ (Go.Oper.mk _ (.convert 75 _ _) _ _ _ _ :: _) _ _)); have hE9 := hE.alloc (.cells #[.int .u8 xy.toNat] 5); refine wpl_bytesStr (bs := [xy]) rfl rfl rfl Tryd.underlying75 Tryd.underlying5 Tryd.underlying9 (reads_pt hE9 0 rfl (off := 0) (fun j u hu => by rw [Nat.zero_add, List.getElem?_toArray]; exact hu)) rfl ?_; replace hE := hE9.tail; clear hE9))
                                  go_roundw
                                  case measure => simp [intOf] <;> omega
                                  case rel => exact ⟨m, k + 4, px, by omega, by have := Hfit.out; omega, rfl, by first | rfl | simp, by rw [Hpx.out]; exact Hm.out.1, Hm.out.2, by rw [Hpx.out]; simp; omega, hE⟩
                              | false =>
                                rw [if_neg (by rintro (h | h | h); omega; omega; exact of_decide_eq_false h13 h.1)] at Hstep
                                obtain ⟨m, hm1, hm2⟩ := Hnext.out xy 4 (by omega) Hstep.out
                                rw [← Hdr.out 4] at hm1 hm2
                                have Hm := SL.hid (And.intro hm1 hm2)
                                clear hm1 hm2 Hstep
                                obtain ⟨px, hpx, hjpx, hcpx⟩ := cat2 out [xy] (by simp only [List.length_cons, List.length_nil]; omega)
                                simp only [List.length_cons, List.length_nil, Nat.zero_add] at hcpx
                                have Hpx := SL.hid hpx
                                clear hpx
                                go_wp2_with (first | go_skip | ((with_reducible (show Go.wpList _ _ _ (Go.Oper.mk _ (.convert 75 _ _) _ _ _ _ :: _) _ _)); have hE9 := hE.alloc (.cells #[.int .u8 xy.toNat] 5); refine wpl_bytesStr (bs := [xy]) rfl rfl rfl Tryd.underlying75 Tryd.underlying5 Tryd.underlying9 (reads_pt hE9 0 rfl (off := 0) (fun j u hu => by rw [Nat.zero_add, List.getElem?_toArray]; exact hu)) rfl ?_; replace hE := hE9.tail; clear hE9))
                                go_roundw
                                case measure => simp [intOf] <;> omega
                                case rel => exact ⟨m, k + 4, px, by omega, by have := Hfit.out; omega, rfl, by first | rfl | simp, by rw [Hpx.out]; exact Hm.out.1, Hm.out.2, by rw [Hpx.out]; simp; omega, hE⟩
          · obtain rfl : k = s.length - 1 := by omega
            have ht0 : t = [] := List.eq_nil_of_length_eq_zero (by omega)
            have R := SL.hid (show sunq s = some out by
              rw [Hsu.out, hdec, ht0]
              cases n <;> simp [sdec])
            have hge : decide (((s.length - 1 : Nat) : Int) < (s.length : Int) - 1) = false := decide_eq_false (by omega)
            clear hdec hn Hdr Hat hlen ht0
            go_wp2
            go_ret2
            exact ⟨_, rfl, by rw [R.out]; rfl, hE⟩
end Go.Proofs.YtjmllpgmbaoebaaDoor
namespace Go.Proofs.YtjmllpgmbaoebaaDoor
open Go.RowKit Go.SL

set_option maxRecDepth 100000 in
set_option maxHeartbeats 8000000 in
theorem ManifestQuotes_any {s t : List UInt8} {l : List HProp} {w : World} (hE : Ent l w) :
    Calls Tryd.prog 5 #[.string ⟨s.toArray⟩, .string ⟨t.toArray⟩] w (Ret fun v w' => v = .bool true ∧ Ent l w') := by
  have HWk := SL.hid (fun (L : List HProp) (w : World) (h : Ent L w) => wakes30_any h)
  cases hgs : decide ((500 : Int) < (s.length : Int)) with
  | true =>
    go_enter Tryd.func5, Tryd.ntmps5
    go_wp2_with (first
      | go_skip
      | (go_at_call 20; refine (HWk.out _ _ hE).mono ?_; clear hE; rintro e w9 ⟨v, rfl, rfl, hE⟩))
    go_ret
    exact ⟨_, rfl, rfl, hE⟩
  | false =>
    cases hgt : decide ((500 : Int) < (t.length : Int)) with
    | true =>
      go_enter Tryd.func5, Tryd.ntmps5
      go_wp2_with (first
        | go_skip
        | (go_at_call 20; refine (HWk.out _ _ hE).mono ?_; clear hE; rintro e w9 ⟨v, rfl, rfl, hE⟩))
      go_ret
      exact ⟨_, rfl, rfl, hE⟩
    | false =>
      have hs : s.length ≤ 500 := by have := of_decide_eq_false hgs; omega
      have ht : t.length ≤ 500 := by have := of_decide_eq_false hgt; omega
      have HU := SL.hid (fun (L : List HProp) (w : World) (h : Ent L w) => Unquote_any (s := t) (by omega) h)
      have HRU := SL.hid (fun (L : List HProp) (w : World) (h : Ent L w) => rUnquote_any (s := t) (by omega) h)
      have HQ := SL.hid (fun (L : List HProp) (w : World) (h : Ent L w) => Quote_any (s := s) (by omega) h)
      have HRQ := SL.hid (fun (L : List HProp) (w : World) (h : Ent L w) => rQuote_any (s := s) (by omega) h)
      rw [sunq_unq] at HRU
      simp only [unqV] at HU HRU
      generalize (unq t).getD [] = o at *
      generalize (unq t).isSome = ok at *
      generalize quoteP s = q at *
      go_enter Tryd.func5, Tryd.ntmps5
      go_wp2_with (first
        | go_skip
        | (go_at_call 21; refine (HU.out _ _ hE).mono ?_; clear hE; rintro e w2 ⟨v, rfl, rfl, hE⟩)
        | (go_at_call 22; refine (HRU.out _ _ hE).mono ?_; clear hE; rintro e w3 ⟨v, rfl, rfl, hE⟩)
        | (go_at_call 23; refine (HQ.out _ _ hE).mono ?_; clear hE; rintro e w4 ⟨v, rfl, rfl, hE⟩)
        | (go_at_call 24; refine (HRQ.out _ _ hE).mono ?_; clear hE; rintro e w5 ⟨v, rfl, rfl, hE⟩)
        | (go_at_call 20; refine (HWk.out _ _ hE).mono ?_; clear hE; rintro e w9 ⟨v, rfl, rfl, hE⟩))
      go_ret
      exact ⟨_, rfl, rfl, hE⟩
theorem ManifestQuotes_in {s t : ByteArray} {W : World} :
    Calls Tryd.prog 5 #[.string s, .string t] W (Ret fun v w' => v = .bool true ∧ Ent [rest W fun _ => False] w') :=
  ManifestQuotes_any (s := s.data.toList) (t := t.data.toList) (Ent.start W)
end Go.Proofs.YtjmllpgmbaoebaaDoor
