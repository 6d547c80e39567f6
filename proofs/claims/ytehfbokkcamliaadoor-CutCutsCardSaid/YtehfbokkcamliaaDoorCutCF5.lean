/-
  A chunk alone, as the document says it: what a parent has of it, and its bytes.
-/
import Derived.Test.YtehfbokkcamliaaDoorCutCF4
import Derived.Shelf.RegionOpen
import Derived.Deep.RegionHeld
namespace Go.Proofs.YtehfbokkcamliaaDoor
open Go.RowKit Go.SL

theorem rput_any {u : UInt8} {data : List UInt8} {ks : List Kid} {ao : Option Addr} {c : Nat} (hg : ∀ k ∈ ks, k.good) (hm : mayC ⟨u, data, ks⟩ = true) {l : List HProp} {w : World} (hE : Ent l w) (hk : Knows l (reads (.slice ao ks.length c) ks.length (kidCells ks))) :
    Calls Tryd.prog 87 #[.agg #[.int .u8 u.toNat, .string ⟨data.toArray⟩, .slice ao ks.length c]] w (Ret fun v w' => v = .string ⟨(putC ⟨u, data, ks⟩).toArray⟩ ∧ Ent l w') := by
  have h6 : ks.length ≤ 6 := mayC_kids hm
  cases h1 : u == 1 with
  | true =>
    obtain rfl : u = 1 := by simpa using h1
    obtain ⟨rfl, hd⟩ := mayC_1 hm
    exact rPut_1 (by omega) hE
  | false =>
    obtain ⟨rfl, rfl | rfl⟩ := mayC_not1 h1 hm
    · exact rPut_2 hg h6 hE hk
    · refine rPut_3 hg h6 ?_ hE hk
      intro k hk
      obtain ⟨i, hi, rfl⟩ := List.getElem_of_mem hk
      have h2 := hm
      simp only [mayC, Bool.and_eq_true] at h2
      have h3 := h2.2
      rw [if_neg (by decide), if_neg (by decide), if_pos (by decide)] at h3
      simp only [Bool.and_eq_true, List.all_eq_true] at h3
      have := h3.1 i (List.mem_range.2 hi)
      unfold dirOk at this
      rw [List.getElem?_eq_getElem hi] at this
      simp only [Bool.and_eq_true, decide_eq_true_eq] at this
      exact this.1.2
theorem rbuilt_kid {hs : List UInt8} (h32 : hs.length = 32) (g s : Int) : Tryd.prog.built 78 [(2, .agg (bvals hs).toArray), (3, .int .u8 g), (4, .int .u32 s)] = some (.string ⟨#[]⟩ :: .bool false :: (bvals hs ++ [.int .u8 g, .int .u32 s])).toArray := by
  obtain ⟨x0, x1, x2, x3, x4, x5, x6, x7, x8, x9, x10, x11, x12, x13, x14, x15, x16, x17, x18, x19, x20, x21, x22, x23, x24, x25, x26, x27, x28, x29, x30, x31, rfl⟩ := list32 h32
  kernel_rfl
theorem run_rbuilt_kid {k : Kid} (h : k.good) (w : World) : (Instr.build 78 #[(2, .agg (bvals k.hash).toArray), (3, .int .u8 k.height.toNat), (4, .int .u32 k.size)]).run Tryd.prog w = .ok (.agg (kcells ⟨[], false, k.hash, k.height, k.size⟩).toArray) w :=
  run_build w 78 _ _ (rbuilt_kid h.1 _ _)
/-- a top: a kid's cells, and the slice of its chunks -/
def topC (k : Kid) (v : Value) : List Value := kcells k ++ [v]
theorem topC_len {k : Kid} (h : k.good) (v : Value) : (topC k v).length = 37 := by rw [topC, List.length_append, kcells_len h]; rfl
theorem topC_one (k : Kid) {v : Value} (hv : v.oneCell' = true) : ∀ u ∈ topC k v, u.oneCell' = true := by
  intro u hu
  rw [topC, List.mem_append, List.mem_singleton] at hu
  rcases hu with hu | rfl
  · exact kcells_one k u hu
  · exact hv
theorem built_top {k : Kid} (h : k.good) (ao : Option Addr) (n c : Nat) : Tryd.prog.built 80 [(0, .agg (kcells k).toArray), (1, .slice ao n c)] = some (topC k (.slice ao n c)).toArray := by
  obtain ⟨nm, d, hs, g, z⟩ := k
  obtain ⟨x0, x1, x2, x3, x4, x5, x6, x7, x8, x9, x10, x11, x12, x13, x14, x15, x16, x17, x18, x19, x20, x21, x22, x23, x24, x25, x26, x27, x28, x29, x30, x31, e⟩ := list32 h.1
  simp only at e
  subst e
  kernel_rfl
theorem run_built_top {k : Kid} (h : k.good) (ao : Option Addr) (n c : Nat) (w : World) : (Instr.build 80 #[(0, .agg (kcells k).toArray), (1, .slice ao n c)]).run Tryd.prog w = .ok (.agg (topC k (.slice ao n c)).toArray) w :=
  run_build w 80 _ _ (built_top h ao n c)
theorem with_tab {l : List HProp} {w : World} {bs : List UInt8} (hb : bs.length ≤ 1000000) (hE : Ent l w) :
    Calls Tryd.prog 88 #[.agg ((tabH hFirst).map u32v).toArray, .string ⟨bs.toArray⟩] w (Ret fun v w' => v = .agg (bvals (shaV bs)).toArray ∧ Ent l w') := With_is hb hE

theorem rbuilt_text (s : ByteArray) (w : World) : (Instr.buildSlice 22 1 #[(0, .string s)]).run Tryd.prog w = .ok (.slice (some ⟨w.heap.size, 0, none⟩) 1 1) (w.alloc (.cells #[.string s] 9)) := by
  simp [go_sem]
set_option maxRecDepth 100000 in
set_option maxHeartbeats 8000000 in
attribute [-go_sem] Instr.build Instr.loadAt in
theorem one_any {u : UInt8} {data : List UInt8} {ks : List Kid} {ao : Option Addr} {c : Nat} (hg : ∀ k ∈ ks, k.good) (hm : mayC ⟨u, data, ks⟩ = true) (hs : csize ⟨u, data, ks⟩ < 4294967296) {l : List HProp} {w : World} (hE : Ent l w) (hk : Knows l (reads (.slice ao ks.length c) ks.length (kidCells ks))) :
    Calls Tryd.prog 57 #[tabV (tabH hFirst), .agg #[.int .u8 u.toNat, .string ⟨data.toArray⟩, .slice ao ks.length c]] w
      (Ret fun v w' => ∃ b, v = .agg (topC (kidOf ⟨u, data, ks⟩) (.slice (some ⟨b, 0, none⟩) 1 1)).toArray ∧ Ent (pt b (.cells #[.string ⟨(putC ⟨u, data, ks⟩).toArray⟩] 9) :: l) w') := by
  have h6 : ks.length ≤ 6 := mayC_kids hm
  have hh : hgt ⟨u, data, ks⟩ ≤ 255 := by
    simp only [mayC, Bool.and_eq_true, decide_eq_true_eq] at hm
    exact hm.1.1
  have hdl : data.length ≤ 1099511627776 := by
    cases h1 : u == 1 with
    | true =>
      obtain rfl : u = 1 := by simpa using h1
      have := (mayC_1 hm).2
      omega
    | false =>
      rw [(mayC_not1 h1 hm).1]
      simp
  have hpl := put_len (c := ⟨u, data, ks⟩) hg hm
  have HP := SL.hid (fun (L : List HProp) (w : World) (hE : Ent L w) (hl : l <:+ L) => rput_any hg hm hE (hk.suf hl))
  have HH := SL.hid (fun (L : List HProp) (w : World) (hE : Ent L w) (hl : l <:+ L) => rHeight_any (u := u) (data := data) hg (by omega) hE (hk.suf hl))
  have HZ := SL.hid (fun (L : List HProp) (w : World) (hE : Ent L w) (hl : l <:+ L) => rSize_any (u := u) (data := data) hg (by omega) hdl hE (hk.suf hl))
  have hkid := kidOf_good (c := ⟨u, data, ks⟩) hs
  have Hhgt := SL.hid (kidOf_height hh)
  have Hbuild := SL.hid (show ∀ w, (Instr.build 78 #[(2, .agg (bvals (shaV (putC ⟨u, data, ks⟩))).toArray), (3, .int .u8 ((hgt ⟨u, data, ks⟩ : Nat) : Int)), (4, .int .u32 ((csize ⟨u, data, ks⟩ : Nat) : Int))]).run Tryd.prog w = .ok (.agg (kcells (kidOf ⟨u, data, ks⟩)).toArray) w from fun w => by
    have := run_rbuilt_kid hkid w
    rw [Hhgt.out] at this
    exact this)
  have Htop := SL.hid (show ∀ (a : Option Addr) (n c : Nat) (w : World), (Instr.build 80 #[(0, .agg (kcells (kidOf ⟨u, data, ks⟩)).toArray), (1, .slice a n c)]).run Tryd.prog w = .ok (.agg (kcells (kidOf ⟨u, data, ks⟩) ++ [Value.slice a n c]).toArray) w from fun a n c w => run_built_top hkid a n c w)
  have Hlen := SL.hid (show ∀ v, (kcells (kidOf ⟨u, data, ks⟩) ++ [v]).length = 37 from fun v => topC_len hkid v)
  have Hone := SL.hid (show ∀ (a : Option Addr) (n c : Nat), ∀ y ∈ kcells (kidOf ⟨u, data, ks⟩) ++ [Value.slice a n c], y.oneCell' = true from fun a n c => topC_one _ rfl)
  have e1 : hgtB u ks = hgt ⟨u, data, ks⟩ := rfl
  have e2 : sizeB u data ks = csize ⟨u, data, ks⟩ := rfl
  simp only [e1] at HH
  simp only [e2] at HZ
  unfold topC
  generalize putC ⟨u, data, ks⟩ = bs at *
  generalize kcells (kidOf ⟨u, data, ks⟩) = kx at *
  generalize csize ⟨u, data, ks⟩ = zz at *
  generalize hgt ⟨u, data, ks⟩ = hg8 at *
  have HS := SL.hid (fun (L : List HProp) (w : World) (hE : Ent L w) => with_tab (bs := bs) (by omega) hE)
  have Htl := SL.hid (show ((tabH hFirst).map u32v).length = 72 from rfl)
  have hex : ∃ tl, tl = (tabH hFirst).map u32v := ⟨_, rfl⟩
  obtain ⟨tl, htl⟩ := hex
  show Calls Tryd.prog 57 #[.agg ((tabH hFirst).map u32v).toArray, _] w _
  rw [← htl] at HS Htl ⊢
  clear htl
  have z1 : IntKind.u8.wrap (hg8 : Int) = (hg8 : Int) := by rw [IntKind.wrap_u8]; omega
  have z2 : (hg8 : Int) % 256 = (hg8 : Int) := by omega
  have z3 : IntKind.u32.wrap (zz : Int) = (zz : Int) := by rw [IntKind.wrap_u32]; omega
  have z4 : (zz : Int) % 4294967296 = (zz : Int) := by omega
  clear hpl hh hdl h6 e1 e2 hkid Hhgt hg hm hs hk
  go_enter Tryd.func57, Tryd.ntmps57
  go_wp2_with (first
    | go_skip
    | ((with_reducible (show Go.wpList _ _ _ (Go.Oper.mk _ (.box 85 _) _ _ _ _ :: _) _ _)); refine wpl_box hE rfl rfl (v := .agg tl.toArray) rfl ?_; clear hE; intro b2 w hE; simp only [Value.cells] at hE)
    | ((with_reducible (show Go.wpList _ _ _ (Go.Oper.mk _ (.box 120 _) _ _ _ _ :: _) _ _)); refine wpl_box hE rfl rfl rfl ?_; clear hE; intro b3 w hE; simp only [Act.eval, Act.put, List.setIfInBounds_toArray, List.set_cons_zero, List.set_cons_succ, getD_lit, List.getD_cons_succ, List.getD_cons_zero, Value.cells] at hE)
    | ((with_reducible (show Go.wpList _ _ _ (Go.Oper.mk _ (.alloc 80) _ _ _ _ :: _) _ _)); refine wpl_allocN hE rfl rfl (n := 37) (by kernel_rfl) ?_; clear hE; intro b4 cs w1 hq hE)
    | (refine lwX (t := 120) hE Tryd.isAgg120 Tryd.sizeOf120 ?_)
    | (go_at_call 87; refine (HP.out _ _ hE sfx).mono ?_; clear hE; rintro e w5 ⟨v, rfl, rfl, hE⟩))
  have Hq := SL.hid (show cs.toArray.size = 37 by simpa using hq)
  clear hq
  have hO := hE.drew
  have hB := Hbuild.out
  have hT := Htop.out
  refine wp_region_held_drew (S := (fun w' => ((Instr.loadAt 120 (.pointer (some ⟨b3, 0, none⟩))).run Tryd.prog w' = .ok (.agg [.int .u8 u.toNat, .string ⟨data.toArray⟩, .slice ao ks.length c].toArray) w') ∧ ((Instr.loadAt 85 (.pointer (some ⟨b2, 0, none⟩))).run Tryd.prog w' = .ok (.agg tl.toArray) w'))) (by kernel_rfl) ⟨(atWq hO Tryd.isAgg120 Tryd.sizeOf120), (atWm hO (by repeat (first | exact List.Mem.head _ | refine List.Mem.tail _ ?_)) Tryd.isAgg85 Tryd.sizeOf85 Htl.out)⟩ (fun hS => ?_)
  refine tL 0 hS ?_; refine tV 1 hS ?_; refine tL 3 hS ?_; refine tL 6 hS ?_; refine tV 10 hS ?_
  refine wpAnyH_ready (rs := [2, 11]) (by kernel_rfl) (by simp) ?_
  refine (AllReadyH.cons (o := ⟨some 10, .call { callee := .value (.func 88), args := #[.tmp 8, .tmp 9], argTypes := #[85, 9] }, _, _, _, none⟩) rfl (fun K hK => ?_) (AllReadyH.cons (o := ⟨some 19, .buildSlice 22 1 #[(0, .tmp 18)], _, _, _, none⟩) rfl (fun K hK => ?_) AllReadyH.nil))
  focus
    (go_simp; refine (HS.out _ _ hO).mono ?_; clear hO; rintro e w5 ⟨v, h1, h2, hO⟩; cases h1; cases h2)
    refine tK hK ⟨(atWq hO Tryd.isAgg120 Tryd.sizeOf120), (atWm hO (by repeat (first | exact List.Mem.head _ | refine List.Mem.tail _ ?_)) Tryd.isAgg85 Tryd.sizeOf85 Htl.out)⟩ (fun hS => ?_); clear hK K
    refine wpAnyH_ready (rs := [4, 11]) (by kernel_rfl) (by simp) ?_
    refine (AllReadyH.cons (o := ⟨some 12, .call { callee := .value (.func 89), args := #[.tmp 11], argTypes := #[120] }, _, _, _, none⟩) rfl (fun K hK => ?_) (AllReadyH.cons (o := ⟨some 19, .buildSlice 22 1 #[(0, .tmp 18)], _, _, _, none⟩) rfl (fun K hK => ?_) AllReadyH.nil))
    focus
      (go_simp; refine (HH.out _ _ hO sfx).mono ?_; clear hO; rintro e w5 ⟨v, h1, h2, hO⟩; cases h1; cases h2)
      refine tK hK ⟨(atWq hO Tryd.isAgg120 Tryd.sizeOf120), (atWm hO (by repeat (first | exact List.Mem.head _ | refine List.Mem.tail _ ?_)) Tryd.isAgg85 Tryd.sizeOf85 Htl.out)⟩ (fun hS => ?_); clear hK K
      refine tV 5 hS ?_
      refine wpAnyH_ready (rs := [7, 11]) (by kernel_rfl) (by simp) ?_
      refine (AllReadyH.cons (o := ⟨some 15, .call { callee := .value (.func 90), args := #[.tmp 14], argTypes := #[120] }, _, _, _, none⟩) rfl (fun K hK => ?_) (AllReadyH.cons (o := ⟨some 19, .buildSlice 22 1 #[(0, .tmp 18)], _, _, _, none⟩) rfl (fun K hK => ?_) AllReadyH.nil))
      focus
        (go_simp; refine (HZ.out _ _ hO sfx).mono ?_; clear hO; rintro e w5 ⟨v, h1, h2, hO⟩; cases h1; cases h2)
        refine tK hK ⟨(atWq hO Tryd.isAgg120 Tryd.sizeOf120), (atWm hO (by repeat (first | exact List.Mem.head _ | refine List.Mem.tail _ ?_)) Tryd.isAgg85 Tryd.sizeOf85 Htl.out)⟩ (fun hS => ?_); clear hK K
        refine tV 8 hS ?_; refine tV 9 hS ?_
        refine tO 11 (fun K hK => ?_)
        (refine stp_buildC hO rfl (by rfl) (by rfl) (rbuilt_text _ _) ?_; clear hO; intro b9 w7 hO)
        refine tK hK ⟨(atWq hO Tryd.isAgg120 Tryd.sizeOf120), (atWm hO (by repeat (first | exact List.Mem.head _ | refine List.Mem.tail _ ?_)) Tryd.isAgg85 Tryd.sizeOf85 Htl.out)⟩ (fun hS => ?_); clear hK K
        refine tV 12 hS ?_
        refine tO 13 (fun K hK => ?_)
        (refine step_storeW hO 1 rfl rfl (by rfl) (by rfl) (xs := kx ++ [.slice (some ⟨b9, 0, none⟩) 1 1]) (by rfl) Tryd.sizeOf80 (Hlen.out _) (Hone.out _ _ _) Hq.out ?_; clear hO; intro w6 hO; simp only [List.set_cons_zero, List.set_cons_succ] at hO)
        refine tK hK ⟨(atWq hO Tryd.isAgg120 Tryd.sizeOf120), (atWm hO (by repeat (first | exact List.Mem.head _ | refine List.Mem.tail _ ?_)) Tryd.isAgg85 Tryd.sizeOf85 Htl.out)⟩ (fun hS => ?_); clear hK K
        refine wpAnyH_done (by kernel_rfl) ?_ _
      rotate_right
      focus
        (refine stp_buildC hO rfl (by rfl) (by rfl) (rbuilt_text _ _) ?_; clear hO; intro b9 w7 hO)
        refine tK hK ⟨(atWq hO Tryd.isAgg120 Tryd.sizeOf120), (atWm hO (by repeat (first | exact List.Mem.head _ | refine List.Mem.tail _ ?_)) Tryd.isAgg85 Tryd.sizeOf85 Htl.out)⟩ (fun hS => ?_); clear hK K
        refine tO 7 (fun K hK => ?_)
        (go_simp; refine (HZ.out _ _ hO sfx).mono ?_; clear hO; rintro e w5 ⟨v, h1, h2, hO⟩; cases h1; cases h2)
        refine tK hK ⟨(atWq hO Tryd.isAgg120 Tryd.sizeOf120), (atWm hO (by repeat (first | exact List.Mem.head _ | refine List.Mem.tail _ ?_)) Tryd.isAgg85 Tryd.sizeOf85 Htl.out)⟩ (fun hS => ?_); clear hK K
        refine tV 8 hS ?_; refine tV 9 hS ?_; refine tV 12 hS ?_
        refine tO 13 (fun K hK => ?_)
        (refine step_storeW hO 1 rfl rfl (by rfl) (by rfl) (xs := kx ++ [.slice (some ⟨b9, 0, none⟩) 1 1]) (by rfl) Tryd.sizeOf80 (Hlen.out _) (Hone.out _ _ _) Hq.out ?_; clear hO; intro w6 hO; simp only [List.set_cons_zero, List.set_cons_succ] at hO)
        refine tK hK ⟨(atWq hO Tryd.isAgg120 Tryd.sizeOf120), (atWm hO (by repeat (first | exact List.Mem.head _ | refine List.Mem.tail _ ?_)) Tryd.isAgg85 Tryd.sizeOf85 Htl.out)⟩ (fun hS => ?_); clear hK K
        refine wpAnyH_done (by kernel_rfl) ?_ _
    rotate_right
    focus
      (refine stp_buildC hO rfl (by rfl) (by rfl) (rbuilt_text _ _) ?_; clear hO; intro b9 w7 hO)
      refine tK hK ⟨(atWq hO Tryd.isAgg120 Tryd.sizeOf120), (atWm hO (by repeat (first | exact List.Mem.head _ | refine List.Mem.tail _ ?_)) Tryd.isAgg85 Tryd.sizeOf85 Htl.out)⟩ (fun hS => ?_); clear hK K
      refine tO 4 (fun K hK => ?_)
      (go_simp; refine (HH.out _ _ hO sfx).mono ?_; clear hO; rintro e w5 ⟨v, h1, h2, hO⟩; cases h1; cases h2)
      refine tK hK ⟨(atWq hO Tryd.isAgg120 Tryd.sizeOf120), (atWm hO (by repeat (first | exact List.Mem.head _ | refine List.Mem.tail _ ?_)) Tryd.isAgg85 Tryd.sizeOf85 Htl.out)⟩ (fun hS => ?_); clear hK K
      refine tV 5 hS ?_
      refine tO 7 (fun K hK => ?_)
      (go_simp; refine (HZ.out _ _ hO sfx).mono ?_; clear hO; rintro e w5 ⟨v, h1, h2, hO⟩; cases h1; cases h2)
      refine tK hK ⟨(atWq hO Tryd.isAgg120 Tryd.sizeOf120), (atWm hO (by repeat (first | exact List.Mem.head _ | refine List.Mem.tail _ ?_)) Tryd.isAgg85 Tryd.sizeOf85 Htl.out)⟩ (fun hS => ?_); clear hK K
      refine tV 8 hS ?_; refine tV 9 hS ?_; refine tV 12 hS ?_
      refine tO 13 (fun K hK => ?_)
      (refine step_storeW hO 1 rfl rfl (by rfl) (by rfl) (xs := kx ++ [.slice (some ⟨b9, 0, none⟩) 1 1]) (by rfl) Tryd.sizeOf80 (Hlen.out _) (Hone.out _ _ _) Hq.out ?_; clear hO; intro w6 hO; simp only [List.set_cons_zero, List.set_cons_succ] at hO)
      refine tK hK ⟨(atWq hO Tryd.isAgg120 Tryd.sizeOf120), (atWm hO (by repeat (first | exact List.Mem.head _ | refine List.Mem.tail _ ?_)) Tryd.isAgg85 Tryd.sizeOf85 Htl.out)⟩ (fun hS => ?_); clear hK K
      refine wpAnyH_done (by kernel_rfl) ?_ _
  rotate_right
  focus
    (refine stp_buildC hO rfl (by rfl) (by rfl) (rbuilt_text _ _) ?_; clear hO; intro b9 w7 hO)
    refine tK hK ⟨(atWq hO Tryd.isAgg120 Tryd.sizeOf120), (atWm hO (by repeat (first | exact List.Mem.head _ | refine List.Mem.tail _ ?_)) Tryd.isAgg85 Tryd.sizeOf85 Htl.out)⟩ (fun hS => ?_); clear hK K
    refine tO 2 (fun K hK => ?_)
    (go_simp; refine (HS.out _ _ hO).mono ?_; clear hO; rintro e w5 ⟨v, h1, h2, hO⟩; cases h1; cases h2)
    refine tK hK ⟨(atWq hO Tryd.isAgg120 Tryd.sizeOf120), (atWm hO (by repeat (first | exact List.Mem.head _ | refine List.Mem.tail _ ?_)) Tryd.isAgg85 Tryd.sizeOf85 Htl.out)⟩ (fun hS => ?_); clear hK K
    refine tO 4 (fun K hK => ?_)
    (go_simp; refine (HH.out _ _ hO sfx).mono ?_; clear hO; rintro e w5 ⟨v, h1, h2, hO⟩; cases h1; cases h2)
    refine tK hK ⟨(atWq hO Tryd.isAgg120 Tryd.sizeOf120), (atWm hO (by repeat (first | exact List.Mem.head _ | refine List.Mem.tail _ ?_)) Tryd.isAgg85 Tryd.sizeOf85 Htl.out)⟩ (fun hS => ?_); clear hK K
    refine tV 5 hS ?_
    refine tO 7 (fun K hK => ?_)
    (go_simp; refine (HZ.out _ _ hO sfx).mono ?_; clear hO; rintro e w5 ⟨v, h1, h2, hO⟩; cases h1; cases h2)
    refine tK hK ⟨(atWq hO Tryd.isAgg120 Tryd.sizeOf120), (atWm hO (by repeat (first | exact List.Mem.head _ | refine List.Mem.tail _ ?_)) Tryd.isAgg85 Tryd.sizeOf85 Htl.out)⟩ (fun hS => ?_); clear hK K
    refine tV 8 hS ?_; refine tV 9 hS ?_; refine tV 12 hS ?_
    refine tO 13 (fun K hK => ?_)
    (refine step_storeW hO 1 rfl rfl (by rfl) (by rfl) (xs := kx ++ [.slice (some ⟨b9, 0, none⟩) 1 1]) (by rfl) Tryd.sizeOf80 (Hlen.out _) (Hone.out _ _ _) Hq.out ?_; clear hO; intro w6 hO; simp only [List.set_cons_zero, List.set_cons_succ] at hO)
    refine tK hK ⟨(atWq hO Tryd.isAgg120 Tryd.sizeOf120), (atWm hO (by repeat (first | exact List.Mem.head _ | refine List.Mem.tail _ ?_)) Tryd.isAgg85 Tryd.sizeOf85 Htl.out)⟩ (fun hS => ?_); clear hK K
    refine wpAnyH_done (by kernel_rfl) ?_ _
  all_goals
    clear hS hE
    have hE := hO
    clear hO
    go_wp2
    refine bodyPost_ret (results_cellA rfl hE 1 rfl rfl Tryd.isAgg80 Tryd.sizeOf80 (Hlen.out _)) rfl ?_
    exact ⟨_, rfl, b9, rfl, ((hE.erase 1).erase 1).erase 1⟩
end Go.Proofs.YtehfbokkcamliaaDoor
namespace Go.Proofs.YtehfbokkcamliaaDoor
open Go.RowKit Go.SL

theorem wide_fnC (f : FuncId) : Fence.wide.fn f = True := rfl
theorem wide_depthC : Fence.wide.depth = none := rfl
attribute [local go_sem] Oper.semAt_some wide_fnC wide_depthC

theorem cutAt_z (size : Nat) (ao : Option Addr) (c : Nat) : cutAt size ao c 0 = ao := by
  unfold cutAt
  split
  · rfl
  · cases ao with
    | none => rfl
    | some a => simp [Addr.add]
/-- what is left behind so many pieces; the pieces themselves -/
def restA (sz m : Nat) (ao : Option Addr) (c : Nat) : Nat → Option Addr
  | 0 => ao
  | k + 1 => cutAt sz (restA sz m ao c k) (c - m * k) m
def restV (sz m : Nat) (ao : Option Addr) (n c k : Nat) : Value := .slice (restA sz m ao c k) (n - m * k) (c - m * k)
def pcV (sz m : Nat) (ao : Option Addr) (n c k : Nat) : Value := if m < n - m * k then .slice (restA sz m ao c k) m (c - m * k) else restV sz m ao n c k
def pcVs (sz m : Nat) (ao : Option Addr) (n c : Nat) : List Value := (List.range (pcN m n)).map (pcV sz m ao n c)
theorem pcVs_len (sz m : Nat) (ao : Option Addr) (n c : Nat) : (pcVs sz m ao n c).length = pcN m n := by simp [pcVs]
theorem pcVs_snoc (sz m : Nat) (ao : Option Addr) (n c k : Nat) : (List.range k).map (pcV sz m ao n c) ++ [pcV sz m ao n c k] = (List.range (k + 1)).map (pcV sz m ao n c) := by
  rw [List.range_succ, List.map_append]; rfl
theorem pcVs_pre (sz m : Nat) (ao : Option Addr) (n c : Nat) {k : Nat} (h : k ≤ pcN m n) : (List.range k).map (pcV sz m ao n c) <+: pcVs sz m ao n c := by
  rw [pcVs]
  obtain ⟨d, hd⟩ : ∃ d, pcN m n = k + d := ⟨pcN m n - k, by omega⟩
  rw [hd, List.range_add, List.map_append]
  exact List.prefix_append _ _
/-- a prefix of the pieces, and the one behind it -/
theorem pcVs_at {sz m : Nat} {ao : Option Addr} {n c : Nat} {pre : List Value} {x : Value} (h : pre ++ [x] <+: pcVs sz m ao n c) : pre.length < pcN m n ∧ x = pcV sz m ao n c pre.length := by
  have hl := h.length_le
  rw [List.length_append, pcVs_len, List.length_singleton] at hl
  refine ⟨by omega, ?_⟩
  have h1 := h.getElem (i := pre.length) (by simp)
  rw [List.getElem_append_right (Nat.le_refl _)] at h1
  simpa [pcVs] using h1
theorem reads_rest {w : World} {sz m : Nat} {ao : Option Addr} {n c : Nat} {xs : List Value} (hr : reads (.slice ao n c) n xs w) (hxs : xs.length = n * sz) (hc : n ≤ c) :
    ∀ k, m * k ≤ n → reads (restV sz m ao n c k) (n - m * k) (xs.drop (m * k * sz)) w
  | 0, _ => by simpa [restV, restA] using hr
  | k + 1, h => by
    have hk : m * k + m ≤ n := by rw [Nat.mul_succ] at h; exact h
    have ih := reads_rest (m := m) hr hxs hc k (by omega)
    have hl : (xs.drop (m * k * sz)).length = (n - m * k) * sz := by rw [List.length_drop, hxs, Nat.sub_mul]
    have h2 := reads_cut ih hl (l := m) (h := n - m * k) (by omega) (Nat.le_refl _) (by omega)
    have e1 : n - m * (k + 1) = n - m * k - m := by rw [Nat.mul_succ]; omega
    have h : m * (k + 1) ≤ n := h
    have e2 : c - m * (k + 1) = c - m * k - m := by rw [Nat.mul_succ]; omega
    have e3 : ((xs.drop (m * k * sz)).drop (m * sz)).take ((n - m * k - m) * sz) = xs.drop (m * (k + 1) * sz) := by
      rw [List.drop_drop, List.take_of_length_le]
      · congr 1; rw [Nat.mul_succ, Nat.add_mul]
      · rw [List.length_drop, hxs, ← Nat.add_mul, ← Nat.sub_mul]
        exact Nat.mul_le_mul_right _ (by omega)
    rw [e3] at h2
    rw [restV, e1, e2]
    exact h2
theorem reads_pc {w : World} {sz m : Nat} (hm : 0 < m) {ao : Option Addr} {n c : Nat} {xs : List Value} (hr : reads (.slice ao n c) n xs w) (hxs : xs.length = n * sz) (hc : n ≤ c) {k : Nat} (hk : k < pcN m n) :
    reads (pcV sz m ao n c k) (min m (n - m * k)) ((xs.drop (m * k * sz)).take (m * sz)) w := by
  have h1 := reads_rest (m := m) hr hxs hc k (pc_in hm hk)
  have hl : (xs.drop (m * k * sz)).length = (n - m * k) * sz := by rw [List.length_drop, hxs, Nat.sub_mul]
  unfold pcV
  split
  · next hlt =>
    have h2 := reads_cut h1 hl (l := 0) (h := m) (by omega) (by omega) (by omega)
    rw [Nat.zero_mul, List.drop_zero, Nat.sub_zero, Nat.sub_zero, cutAt_z] at h2
    rw [Nat.min_eq_left (by omega)]
    exact h2
  · next hge =>
    rw [Nat.min_eq_right (by omega), List.take_of_length_le]
    · exact h1
    · rw [hl]; exact Nat.mul_le_mul_right _ (by omega)
def sliceLeft (b : Nat) (w : World) : Nat := match w.cell? ⟨b, 0, none⟩ with
  | some (.slice _ n _) => n
  | _ => 0
theorem sliceLeft_eq {b : Nat} {w : World} {ao : Option Addr} {n c : Nat} (h : w.cell? ⟨b, 0, none⟩ = some (.slice ao n c)) : sliceLeft b w = n := by
  unfold sliceLeft
  rw [h]
theorem pcV_form {sz m : Nat} {ao : Option Addr} {n c k : Nat} (hc : n ≤ c) : ∃ a' c', pcV sz m ao n c k = .slice a' (min m (n - m * k)) c' ∧ min m (n - m * k) ≤ c' := by
  unfold pcV restV
  split
  · next h => exact ⟨_, _, by rw [Nat.min_eq_left (by omega)], by omega⟩
  · next h => exact ⟨_, _, by rw [Nat.min_eq_right (by omega)], by omega⟩

def pcStB (m : Nat) (ao : Option Addr) (n c bl bm : Nat) (pre : List Value) : List HProp :=
  [pt bl (.cells #[restV 1 m ao n c pre.length] 52), pt bm (.cells #[.int .i64 m] 3)]
theorem piecesB (m : Nat) (ao : Option Addr) (n c : Nat) {l : List HProp} {w : World} (hE : Ent l w) :
    Calls Tryd.prog 85 #[.slice ao n c, .int .i64 m] w (Ret fun v w' => ∃ bl bm, v = .func (.func 108) #[] #[.pointer (some ⟨bl, 0, none⟩), .pointer (some ⟨bm, 0, none⟩)] ∧ Ent (pcStB m ao n c bl bm [] ++ l) w') := by
  go_enter Tryd.func85, Tryd.ntmps85
  go_wp2_with (first
    | go_skip
    | ((with_reducible (show Go.wpList _ _ _ (Go.Oper.mk _ (.box _ (.tmp 0)) _ _ _ _ :: _) _ _)); refine wpl_box hE rfl rfl rfl ?_; clear hE; intro b0 w hE1)
    | ((with_reducible (show Go.wpList _ _ _ (Go.Oper.mk _ (.box _ (.tmp 1)) _ _ _ _ :: _) _ _)); refine wpl_box hE1 rfl rfl rfl ?_; clear hE1; intro b1 w hE2))
  go_ret
  refine ⟨_, rfl, b0, b1, rfl, ?_⟩
  exact hE2.front 1 rfl
set_option maxRecDepth 100000 in
set_option maxHeartbeats 4000000 in
theorem pieces_iterB (m : Nat) (hm : 0 < m) (hm2 : m ≤ 1000) (ao : Option Addr) (n c : Nat) (hc : n ≤ c) (bl bm : Nat) :
    SeqSL Tryd.prog 108 #[.pointer (some ⟨bl, 0, none⟩), .pointer (some ⟨bm, 0, none⟩)] (fun v : Value => #[v]) (pcVs 1 m ao n c) (pcStB m ao n c bl bm) := by
  intro lp J Jx W hW hY
  refine callsIn_of_wp Tryd.func108 rfl trivial ?_ rfl
  simp only [Tryd.ntmps108, List.size_toArray, List.length_cons, List.length_nil, Nat.reduceAdd, Nat.reduceSub, Array.replicate_succ, Array.replicate_zero, List.push_toArray, List.append_toArray, List.nil_append, List.cons_append]
  gi_wp2
  gi_loopw [4] (fun _ wr => ∃ k, k < pcN m n ∧ Ent (pcStB m ao n c bl bm ((List.range k).map (pcV 1 m ao n c)) ++ J ((List.range k).map (pcV 1 m ao n c))) wr) (fun _ wr => sliceLeft bl wr)
  case atStart => exact ⟨0, pcN_pos _ _, hW⟩
  case round =>
    obtain ⟨k, hk, hE⟩ := hrel
    have hpre := pcVs_pre 1 m ao n c (k := k + 1) hk
    rw [← pcVs_snoc] at hpre
    have hlen : ((List.range k).map (pcV 1 m ao n c)).length = k := by simp
    have hlen2 : ((List.range (k + 1)).map (pcV 1 m ao n c)).length = k + 1 := by simp
    have hin := pc_in hm hk
    have Hnext := SL.hid (show ∀ h : m < n - m * k, restV 1 m ao n c (k + 1) = .slice (cutAt 1 (restA 1 m ao c k) (c - m * k) m) (n - m * k - m) (c - m * k - m) from fun _ => by
      rw [restV, restA, Nat.mul_succ]; congr 1 <;> omega)
    obtain ⟨fn, tmps, assign, body, hy, hR⟩ := hY _ _ wr hpre hE
    clear hY
    by_cases hlt : m < n - m * k
    · have hmore := (pc_more hm hk).2 hlt
      have hv : pcV 1 m ao n c k = .slice (restA 1 m ao c k) m (c - m * k) := by rw [pcV, if_pos hlt]
      have hd : decide (m < n - m * k) = true := decide_eq_true hlt
      have k0 : wr.cell? ⟨bl, 0, none⟩ = some (.slice (restA 1 m ao c k) (n - m * k) (c - m * k)) := by have := hE.cell 0 rfl 0; rw [hlen] at this; exact this
      have k1 : wr.cell? ⟨bm, 0, none⟩ = some (.int .i64 m) := hE.cell 1 rfl 0
      have HN := SL.hid (Hnext.out hlt)
      have Hm := SL.hid hmore
      rw [hv] at hy
      have Hh := SL.hid (show m ≤ c - m * k by omega)
      have Hl := SL.hid (show m ≤ n - m * k by omega)
      clear Hnext hmore hin hv hlt hc hk
      have Hrv := SL.hid (show restV 1 m ao n c k = .slice (restA 1 m ao c k) (n - m * k) (c - m * k) from rfl)
      generalize restA 1 m ao c k = ra at *
      generalize hnn : n - m * k = nn at *
      generalize c - m * k = cc at *
      clear hnn
      gi_wp2_with (first
        | (refine wplIn_one rfl rfl rfl (by intro c h; cases h) (by rintro ⟨_, _, h⟩; exact h) ?_; (with_reducible (show Go.wpList _ _ _ (Go.Oper.mk _ (.slice _ _ none (some _) none) _ _ _ _ :: _) _ _)); refine wpl_cut_hi rfl rfl rfl rfl m rfl Tryd.underlying52 Tryd.sizeOf5 Hh.out ?_; refine wplIn_nil ?_))
      refine hR.mono ?_
      rintro e W3 (⟨rfl, hE3⟩ | ⟨rfl, hE3⟩)
      · have j0 : W3.cell? ⟨bl, 0, none⟩ = some (.slice ra nn cc) := by have := hE3.cell 0 rfl 0; rw [hlen, Hrv.out] at this; exact this
        have j1 : W3.cell? ⟨bm, 0, none⟩ = some (.int .i64 m) := hE3.cell 1 rfl 0
        have jf : W3.frozen? ⟨bl, 0, none⟩ = false := hE3.frozen 0 rfl 0
        have Hs := SL.hid (sliceLeft_eq k0)
        clear k0 k1 hE
        gi_wp2_with (first
          | (refine wplIn_one rfl rfl rfl (by intro c h; cases h) (by rintro ⟨_, _, h⟩; exact h) ?_; (with_reducible (show Go.wpList _ _ _ (Go.Oper.mk _ (.slice _ _ (some _) none none) _ _ _ _ :: _) _ _)); refine wpl_cut_lo rfl rfl rfl rfl m rfl Tryd.underlying52 Tryd.sizeOf5 Hl.out ?_; refine wplIn_nil ?_))
        go_roundw
        case rel =>
          have h := hE3.setCell 0 rfl 0 (.slice (cutAt 1 ra cc m) (nn - m) (cc - m))
          rw [pcVs_snoc] at h
          refine ⟨k + 1, Hm.out, ?_⟩
          rw [pcStB, hlen2, HN.out]
          simp only [cutAt, Nat.mul_one] at h ⊢
          exact h
        case measure =>
          have h := hE3.setCell 0 rfl 0 (.slice (cutAt 1 ra cc m) (nn - m) (cc - m))
          simp only [cutAt, Nat.mul_one] at h
          rw [Hs.out, sliceLeft_eq (h.cell 0 rfl 0)]
          have := Hl.out
          omega
      · clear k0 k1
        gi_wp2
        refine bodyPost_ret (results_none rfl _ _ _) rfl ?_
        exact ⟨⟨_, rfl⟩, .inr ⟨_, hpre, hE3⟩⟩
    · have hlast : k + 1 = pcN m n := Classical.byContradiction fun h => hlt ((pc_more hm hk).1 (by omega))
      have hv : pcV 1 m ao n c k = .slice (restA 1 m ao c k) (n - m * k) (c - m * k) := by rw [pcV, if_neg hlt]; rfl
      have hd : decide (m < n - m * k) = false := decide_eq_false hlt
      have k0 : wr.cell? ⟨bl, 0, none⟩ = some (.slice (restA 1 m ao c k) (n - m * k) (c - m * k)) := by have := hE.cell 0 rfl 0; rw [hlen] at this; exact this
      have k1 : wr.cell? ⟨bm, 0, none⟩ = some (.int .i64 m) := hE.cell 1 rfl 0
      have hJ := SL.hid (show pcVs 1 m ao n c = (List.range k).map (pcV 1 m ao n c) ++ [pcV 1 m ao n c k] by rw [pcVs_snoc, pcVs, hlast])
      rw [hv] at hy
      clear Hnext hin hv hlt hc hk
      generalize restA 1 m ao c k = ra at *
      generalize hnn : n - m * k = nn at *
      generalize c - m * k = cc at *
      clear hnn
      gi_wp2
      refine hR.mono ?_
      rintro e W3 (⟨rfl, hE3⟩ | ⟨rfl, hE3⟩)
      · gi_wp2
        go_end0
        exact ⟨⟨_, rfl⟩, .inl (by rw [hJ.out]; exact hE3.drop)⟩
      · gi_wp2
        go_end0
        exact ⟨⟨_, rfl⟩, .inr ⟨_, by rw [hJ.out]; exact List.prefix_rfl, hE3⟩⟩

def pcStK (m : Nat) (ao : Option Addr) (n c bl bm : Nat) (pre : List Value) : List HProp :=
  [pt bl (.cells #[restV 36 m ao n c pre.length] 47), pt bm (.cells #[.int .i64 m] 3)]
theorem piecesK (m : Nat) (ao : Option Addr) (n c : Nat) {l : List HProp} {w : World} (hE : Ent l w) :
    Calls Tryd.prog 86 #[.slice ao n c, .int .i64 m] w (Ret fun v w' => ∃ bl bm, v = .func (.func 109) #[] #[.pointer (some ⟨bl, 0, none⟩), .pointer (some ⟨bm, 0, none⟩)] ∧ Ent (pcStK m ao n c bl bm [] ++ l) w') := by
  go_enter Tryd.func86, Tryd.ntmps86
  go_wp2_with (first
    | go_skip
    | ((with_reducible (show Go.wpList _ _ _ (Go.Oper.mk _ (.box _ (.tmp 0)) _ _ _ _ :: _) _ _)); refine wpl_box hE rfl rfl rfl ?_; clear hE; intro b0 w hE1)
    | ((with_reducible (show Go.wpList _ _ _ (Go.Oper.mk _ (.box _ (.tmp 1)) _ _ _ _ :: _) _ _)); refine wpl_box hE1 rfl rfl rfl ?_; clear hE1; intro b1 w hE2))
  go_ret
  refine ⟨_, rfl, b0, b1, rfl, ?_⟩
  exact hE2.front 1 rfl
set_option maxRecDepth 100000 in
set_option maxHeartbeats 4000000 in
theorem pieces_iterK (m : Nat) (hm : 0 < m) (hm2 : m ≤ 1000) (ao : Option Addr) (n c : Nat) (hc : n ≤ c) (bl bm : Nat) :
    SeqSL Tryd.prog 109 #[.pointer (some ⟨bl, 0, none⟩), .pointer (some ⟨bm, 0, none⟩)] (fun v : Value => #[v]) (pcVs 36 m ao n c) (pcStK m ao n c bl bm) := by
  intro lp J Jx W hW hY
  refine callsIn_of_wp Tryd.func109 rfl trivial ?_ rfl
  simp only [Tryd.ntmps109, List.size_toArray, List.length_cons, List.length_nil, Nat.reduceAdd, Nat.reduceSub, Array.replicate_succ, Array.replicate_zero, List.push_toArray, List.append_toArray, List.nil_append, List.cons_append]
  gi_wp2
  gi_loopw [4] (fun _ wr => ∃ k, k < pcN m n ∧ Ent (pcStK m ao n c bl bm ((List.range k).map (pcV 36 m ao n c)) ++ J ((List.range k).map (pcV 36 m ao n c))) wr) (fun _ wr => sliceLeft bl wr)
  case atStart => exact ⟨0, pcN_pos _ _, hW⟩
  case round =>
    obtain ⟨k, hk, hE⟩ := hrel
    have hpre := pcVs_pre 36 m ao n c (k := k + 1) hk
    rw [← pcVs_snoc] at hpre
    have hlen : ((List.range k).map (pcV 36 m ao n c)).length = k := by simp
    have hlen2 : ((List.range (k + 1)).map (pcV 36 m ao n c)).length = k + 1 := by simp
    have hin := pc_in hm hk
    have Hnext := SL.hid (show ∀ h : m < n - m * k, restV 36 m ao n c (k + 1) = .slice (cutAt 36 (restA 36 m ao c k) (c - m * k) m) (n - m * k - m) (c - m * k - m) from fun _ => by
      rw [restV, restA, Nat.mul_succ]; congr 1 <;> omega)
    obtain ⟨fn, tmps, assign, body, hy, hR⟩ := hY _ _ wr hpre hE
    clear hY
    by_cases hlt : m < n - m * k
    · have hmore := (pc_more hm hk).2 hlt
      have hv : pcV 36 m ao n c k = .slice (restA 36 m ao c k) m (c - m * k) := by rw [pcV, if_pos hlt]
      have hd : decide (m < n - m * k) = true := decide_eq_true hlt
      have k0 : wr.cell? ⟨bl, 0, none⟩ = some (.slice (restA 36 m ao c k) (n - m * k) (c - m * k)) := by have := hE.cell 0 rfl 0; rw [hlen] at this; exact this
      have k1 : wr.cell? ⟨bm, 0, none⟩ = some (.int .i64 m) := hE.cell 1 rfl 0
      have HN := SL.hid (Hnext.out hlt)
      have Hm := SL.hid hmore
      rw [hv] at hy
      have Hh := SL.hid (show m ≤ c - m * k by omega)
      have Hl := SL.hid (show m ≤ n - m * k by omega)
      clear Hnext hmore hin hv hlt hc hk
      have Hrv := SL.hid (show restV 36 m ao n c k = .slice (restA 36 m ao c k) (n - m * k) (c - m * k) from rfl)
      generalize restA 36 m ao c k = ra at *
      generalize hnn : n - m * k = nn at *
      generalize c - m * k = cc at *
      clear hnn
      gi_wp2_with (first
        | (refine wplIn_one rfl rfl rfl (by intro c h; cases h) (by rintro ⟨_, _, h⟩; exact h) ?_; (with_reducible (show Go.wpList _ _ _ (Go.Oper.mk _ (.slice _ _ none (some _) none) _ _ _ _ :: _) _ _)); refine wpl_cut_hi rfl rfl rfl rfl m rfl Tryd.underlying47 Tryd.sizeOf55 Hh.out ?_; refine wplIn_nil ?_))
      refine hR.mono ?_
      rintro e W3 (⟨rfl, hE3⟩ | ⟨rfl, hE3⟩)
      · have j0 : W3.cell? ⟨bl, 0, none⟩ = some (.slice ra nn cc) := by have := hE3.cell 0 rfl 0; rw [hlen, Hrv.out] at this; exact this
        have j1 : W3.cell? ⟨bm, 0, none⟩ = some (.int .i64 m) := hE3.cell 1 rfl 0
        have jf : W3.frozen? ⟨bl, 0, none⟩ = false := hE3.frozen 0 rfl 0
        have Hs := SL.hid (sliceLeft_eq k0)
        clear k0 k1 hE
        gi_wp2_with (first
          | (refine wplIn_one rfl rfl rfl (by intro c h; cases h) (by rintro ⟨_, _, h⟩; exact h) ?_; (with_reducible (show Go.wpList _ _ _ (Go.Oper.mk _ (.slice _ _ (some _) none none) _ _ _ _ :: _) _ _)); refine wpl_cut_lo rfl rfl rfl rfl m rfl Tryd.underlying47 Tryd.sizeOf55 Hl.out ?_; refine wplIn_nil ?_))
        go_roundw
        case rel =>
          have h := hE3.setCell 0 rfl 0 (.slice (cutAt 36 ra cc m) (nn - m) (cc - m))
          rw [pcVs_snoc] at h
          refine ⟨k + 1, Hm.out, ?_⟩
          rw [pcStK, hlen2, HN.out]
          simp only [cutAt, Nat.mul_one] at h ⊢
          exact h
        case measure =>
          have h := hE3.setCell 0 rfl 0 (.slice (cutAt 36 ra cc m) (nn - m) (cc - m))
          simp only [cutAt, Nat.mul_one] at h
          rw [Hs.out, sliceLeft_eq (h.cell 0 rfl 0)]
          have := Hl.out
          omega
      · clear k0 k1
        gi_wp2
        refine bodyPost_ret (results_none rfl _ _ _) rfl ?_
        exact ⟨⟨_, rfl⟩, .inr ⟨_, hpre, hE3⟩⟩
    · have hlast : k + 1 = pcN m n := Classical.byContradiction fun h => hlt ((pc_more hm hk).1 (by omega))
      have hv : pcV 36 m ao n c k = .slice (restA 36 m ao c k) (n - m * k) (c - m * k) := by rw [pcV, if_neg hlt]; rfl
      have hd : decide (m < n - m * k) = false := decide_eq_false hlt
      have k0 : wr.cell? ⟨bl, 0, none⟩ = some (.slice (restA 36 m ao c k) (n - m * k) (c - m * k)) := by have := hE.cell 0 rfl 0; rw [hlen] at this; exact this
      have k1 : wr.cell? ⟨bm, 0, none⟩ = some (.int .i64 m) := hE.cell 1 rfl 0
      have hJ := SL.hid (show pcVs 36 m ao n c = (List.range k).map (pcV 36 m ao n c) ++ [pcV 36 m ao n c k] by rw [pcVs_snoc, pcVs, hlast])
      rw [hv] at hy
      clear Hnext hin hv hlt hc hk
      generalize restA 36 m ao c k = ra at *
      generalize hnn : n - m * k = nn at *
      generalize c - m * k = cc at *
      clear hnn
      gi_wp2
      refine hR.mono ?_
      rintro e W3 (⟨rfl, hE3⟩ | ⟨rfl, hE3⟩)
      · gi_wp2
        go_end0
        exact ⟨⟨_, rfl⟩, .inl (by rw [hJ.out]; exact hE3.drop)⟩
      · gi_wp2
        go_end0
        exact ⟨⟨_, rfl⟩, .inr ⟨_, by rw [hJ.out]; exact List.prefix_rfl, hE3⟩⟩
end Go.Proofs.YtehfbokkcamliaaDoor
namespace Go.SL
/-- the mark of a range over a function -/
def mkD (D : Nat) : Deferred := { target := .collected D, args := #[] }
def ptD (D : Nat) : HProp := pt D (.deferred (some []))
theorem leaves_marks {P : Program} {fn : Func} {tmps : Array Value} {R : Ending → World → Prop} {l : List HProp} : ∀ (Ds : List Nat) (w : World), Ent (Ds.map ptD ++ l) w → (∀ w', Ent l w' → ∃ v, (results fn tmps).run P w' = .ok v w' ∧ R (.returned v) w') →
    LeavesInM Fence.wide 0 P fn tmps R (Ds.map mkD) .returning w
  | [], w, hE, h => h w hE
  | D :: Ds, w, hE, h => by
    refine ⟨by simp, .inl ⟨_, _, rfl, run_takeDeferred hE.head, ?_⟩⟩
    exact leaves_marks Ds _ (hE.setMap 0 (ob' := .deferred none) rfl).tail h
theorem post_marks {P : Program} {fn : Func} {R : Ending → World → Prop} {a : Act} {w : World} {Ds : List Nat} {l : List HProp} (hd : a.defers = Ds.map mkD) (hE : Ent (Ds.map ptD ++ l) w)
    (h : ∀ w', Ent l w' → ∃ v, (results fn a.tmps).run P w' = .ok v w' ∧ R (.returned v) w') : bodyPostM Fence.wide 0 P fn R .ret a w := by
  show LeavesInM Fence.wide 0 P fn a.tmps R a.defers .returning w
  rw [hd]
  exact leaves_marks Ds w hE h
end Go.SL
namespace Go.SL
open Go.RowKit
section
variable {P : Program}
theorem wpIn_rangeSLB {α β : Type} {g : Operand} {ps : Array Tmp} {assign body : Code} {Q : Exit → Act → World → Prop} {a : Act} {w : World} {gf : Nat} {lb : Array Value}
    (hg : a.eval g = .func (.func gf) #[] lb) (eg : ∀ args w, (callFunc gf args).run P w = .ok (.enter gf args) w)
    {encs : α → Array Value} {xs : List α} {st : List α → List HProp} (hseq : SeqSL P gf lb encs xs st) (hps : ∀ x, (encs x).size = ps.size)
    (I : List α → List HProp) (Ix : Code → List α → List HProp) (hE : Ent (st [] ++ I []) w) (a₁ : α → β → Act) (B : α → β → List HProp)
    (hassign : ∀ (lp : Nat) (x : α) (W : World) (L : List HProp) (K : Act → World → Prop), Ent L W → (∀ y W', Ent (B x y ++ L) W' → K (a₁ x y) W') →
      assign.wpIn (Fence.wide.inRound lp) 0 P (Exit.then K (fun _ _ _ => False)) { tmps := (ps.zip (encs x)).foldl (fun t (p, v) => t.setIfInBounds p v) a.tmps, defers := [] } W)
    (hbody : ∀ (lp : Nat) (pre : List α) (x : α) (y : β) (W : World) (L : List HProp), pre ++ [x] <+: xs → Ent (B x y ++ (I pre ++ L)) W → body.wpIn (Fence.wide.inRound lp) 0 P (roundSL I Ix L (pre ++ [x])) (a₁ x y) W)
    (hdone : ∀ (D : Nat) (W : World), Ent (pt D (.deferred (some [])) :: I xs) W → Q .normal { a with defers := { target := .collected D, args := #[] } :: a.defers } W)
    (hstop : ∀ (D : Nat) (c : Code) (pre : List α) (W : World), pre <+: xs → Ent (pt D (.deferred (some [])) :: Ix c pre) W → c.wpIn Fence.wide 0 P Q { a with defers := { target := .collected D, args := #[] } :: a.defers } W) :
    (Code.rangeFunc g ps assign body).wpIn Fence.wide 0 P Q a w := by
  refine wpIn_rangeFunc ?_
  intro fn hfn
  obtain ⟨d, hd⟩ : ∃ d, d = w.heap.size := ⟨_, rfl⟩
  obtain ⟨rc, hrc⟩ : ∃ rc : LoopState → Option Code → Loop, rc = fun s p => { state := s, pending := p, fn, tmps := a.tmps, params := ps, assign, body, defers := d } := ⟨_, rfl⟩
  have h1 : Ent (pt (d + 1) (.loop (rc .ready none)) :: pt d (.deferred (some [])) :: (st [] ++ I [])) ((w.alloc (.deferred (some []))).alloc (.loop (rc .ready none))) := by
    have := (hE.alloc (.deferred (some []))).alloc (.loop (rc .ready none))
    rwa [World.size_alloc, ← hd] at this
  generalize hW1 : (w.alloc (.deferred (some []))).alloc (.loop (rc .ready none)) = W1 at h1
  refine ⟨d + 1, [{ target := .collected d, args := #[] }], W1, { target := .fn (.func gf) lb, args := #[.func (.yield (d + 1)) #[] #[]] }, W1, gf, #[.func (.yield (d + 1)) #[] #[]] ++ lb, W1, ?_, ?_, fun _ _ => trivial, ?_, fun h => (by cases h), ?_⟩
  · rw [← hW1, hrc, hd]; exact run_enterLoop_outer _ _ _ _ _
  · simp only [resolve, hg]
    simp [go_sem]
  · simp [invoke, go_sem, eg]
  · refine (hseq (d + 1) (fun pre => I pre ++ [pt (d + 1) (.loop (rc .ready none)), pt d (.deferred (some []))]) (fun pre => [ex fun c => Ix c pre ++ [pt (d + 1) (.loop (rc .done (some c))), pt d (.deferred (some []))]]) W1 (h1.perm perm_2') ?_).mono ?_
    · rintro pre x W hpre hW
      replace hW := hW.perm perm_2
      have hy := run_yield (P := P) (args := encs x) hW.head (by rw [hrc]; exact hps x)
      rw [hrc] at hy
      refine ⟨fn, _, assign, body, hy, roundIn_of_wpIn trivial (hassign _ x W _ _ hW fun y W' hW' => ?_)⟩
      clear hy
      replace hW := hW'.perm List.perm_middle
      clear hW'
      refine ⟨_, run_beginRound hW.head (by rw [hrc]), ?_⟩
      have hb : Ent (pt (d + 1) (.loop { rc .ready none with state := .busy }) :: (B x y ++ (pt d (.deferred (some [])) :: (st pre ++ I pre)))) (W'.putObj (d + 1) (.loop { rc .ready none with state := .busy })) := hW.setMap 0 rfl
      replace hb := hb.perm (List.perm_middle (l₁ := B x y)).symm
      refine wpIn_mono (hbody _ pre x y _ (pt (d + 1) (.loop { rc .ready none with state := .busy }) :: pt d (.deferred (some [])) :: st pre) hpre (hb.perm (perm_3.symm.append_left _))) ?_
      rintro e a3 W3 hp
      cases e with
      | normal =>
        have h3 : Ent _ W3 := Ent.perm hp perm_3
        refine ⟨_, _, run_endRound none h3.head, .inl ⟨rfl, ?_⟩⟩
        have h4 := h3.setMap 0 (ob' := .loop { { rc .ready none with state := .busy } with state := if (none : Option Code).isNone then .ready else .done, pending := none }) rfl
        rw [hrc] at h4 ⊢
        exact Ent.perm h4 perm_2'
      | ret =>
        have h3 : Ent _ W3 := (Ent.perm hp perm_3)
        refine ⟨_, _, run_endRound (some .ret) h3.head, .inr ⟨rfl, ?_⟩⟩
        have h4 := h3.setMap 0 (ob' := .loop { { rc .ready none with state := .busy } with state := if (some Code.ret).isNone then .ready else .done, pending := some .ret }) rfl
        rw [hrc] at h4 ⊢
        exact Ent.pack (l := []) Code.ret (by rw [List.append_nil]; exact (Ent.perm h4 perm_2').drop)
      | exit id =>
        have h3 : Ent _ W3 := (Ent.perm hp perm_3)
        refine ⟨_, _, run_endRound (some (.exit id)) h3.head, .inr ⟨rfl, ?_⟩⟩
        have h4 := h3.setMap 0 (ob' := .loop { { rc .ready none with state := .busy } with state := if (some (Code.exit id)).isNone then .ready else .done, pending := some (.exit id) }) rfl
        rw [hrc] at h4 ⊢
        exact Ent.pack (l := []) (Code.exit id) (by rw [List.append_nil]; exact (Ent.perm h4 perm_2').drop)
      | goto t => exact hp.elim
      | panic ch => exact hp.elim
      | outgrown => exact hp.elim
    · rintro e W2 ⟨⟨v, rfl⟩, hJ | ⟨pre, hpre, hJ⟩⟩
      · have h3 := Ent.perm hJ (perm_2 (l := []))
        refine ⟨none, _, by have := run_endLoop (P := P) h3.head (by rw [hrc]; simp); rw [hrc] at this; exact this, ?_⟩
        have h4 := h3.setMap 0 (ob' := .loop { rc .ready none with state := .exhausted }) rfl
        rw [hrc] at h4
        exact hdone d _ h4.tail
      · obtain ⟨c, hJ⟩ := hJ.unpack
        rw [List.append_nil] at hJ
        have h3 := Ent.perm hJ (perm_2 (l := []))
        refine ⟨some c, _, by have := run_endLoop (P := P) h3.head (by rw [hrc]; simp); rw [hrc] at this; exact this, ?_⟩
        have h4 := h3.setMap 0 (ob' := .loop { rc .done (some c) with state := .exhausted }) rfl
        rw [hrc] at h4
        exact hstop d c pre _ hpre h4.tail


/-- of a region that only comes to its end -/
def onlyN (K : Act → World → Prop) : Exit → Act → World → Prop
  | .normal, a, w => K a w
  | _, _, _ => False
theorem wp_onlyN {c : Code} {Q : Exit → Act → World → Prop} {a : Act} {w : World} (h : c.wp P (onlyN (fun a w => Q .normal a w)) a w) : c.wp P Q a w :=
  wp_mono h (by
    intro e a w h
    cases e <;> first | exact h | exact h.elim)
theorem onlyN_n {Q : Exit → Act → World → Prop} {a : Act} {w : World} (h : Q .normal a w) : onlyN (fun a w => Q .normal a w) .normal a w := h

/-- an operation carried out in a round, as anywhere -/
theorem opIn_of_op {F : Fence} {n : Nat} {ops : Array Oper} {Q : Exit → Act → World → Prop} {K : Act → World → Prop} {i : Nat} {a : Act} {w : World} (hF : F.fn = fun _ => True) (hdp : F.depth = none) (hal : F.alive = false) (hnd : ∀ o, ops[i]? = some o → ∀ c, o.op ≠ .defer c) (hlo : ¬ ∃ a w, Q .outgrown a w)
    (h : wpOp P ops Q i K a w) : wpOpIn F n P ops Q i K a w := by
  have e1 : Machine.fenced P F = Machine.fenced P Fence.wide := by
    funext m
    simp only [Machine.fenced, hF, hdp, hal, Fence.room, Fence.wide]
  have hCI : ∀ {f args w R}, Calls P f args w R → CallsIn F (n - 1) P f args w R := fun {f args w R} h => by
    refine ⟨by rw [hF]; trivial, fun cs _ => ?_⟩
    obtain ⟨e, w', fr, r, s, x⟩ := (callsIn_wide (n := n - 1)).2 h |>.2 cs (room_wide _)
    exact ⟨e, w', fr, r, by rw [e1]; exact s, x⟩
  unfold wpOp at h
  unfold wpOpIn
  split at h
  · rename_i ho; simp only [ho]; exact h
  · rename_i o ho
    simp only [ho]
    split at h
    · rename_i hw
      rw [if_pos hw]
      replace h := h.resolve_right (fun hh => hlo hh.2)
      refine ⟨fun _ _ => by rw [hF]; trivial, ?_⟩
      have hs : o.semAt F.round a.eval = execOp a.eval o := by
        cases hr : F.round with
        | none => simp [Oper.semAt_none]
        | some l => exact Oper.semAt_some l _ o (hnd o ho)
      rw [hs]
      unfold Oper.wp at h
      generalize (execOp a.eval o).run P w = r at h
      unfold Oper.upon at h
      unfold Oper.uponIn
      split at h
      · exact h
      · exact h
      · exact h
      · refine ⟨fun hh => (by rw [hdp] at hh; cases hh), (hCI h).mono ?_⟩
        intro e w2 h2
        cases e with
        | returned v => exact h2
        | panicked ch => exact h2
        | outgrown => exact h2
      · refine ⟨fun hh => (by rw [hdp] at hh; cases hh), fun c cs _ => ?_⟩
        obtain ⟨v, w', r, s⟩ := h c cs
        exact ⟨v, w', r, by rw [e1]; exact stepsIn_wide.2 s⟩
      · exact h
      · exact h.elim
    · rename_i hw
      rw [if_neg hw]
      exact ⟨fun _ _ => by rw [hF]; trivial, h⟩
theorem anyIn_of_held {F : Fence} {n : Nat} {md : Region.Mode} {ops : Array Oper} {Q : Exit → Act → World → Prop} {S : World → Prop} (hF : F.fn = fun _ => True) (hdp : F.depth = none) (hal : F.alive = false) (hnd : ∀ (i : Nat) o, ops[i]? = some o → ∀ c, o.op ≠ .defer c) (hlo : ¬ ∃ a w, Q .outgrown a w) :
    ∀ (fuel : Nat) (listed : Array Bool) (a : Act) (w : World), wpAnyH P md ops Q S fuel listed a w → wpAnyIn F n P md ops Q fuel listed a w
  | 0, _, _, _, h => h
  | fuel + 1, _, _, _, h => ⟨h.1, fun i hi => wpOpIn_mono (fun a' w' h' => anyIn_of_held hF hdp hal hnd hlo fuel _ a' w' h'.2) (opIn_of_op hF hdp hal (hnd i) hlo (h.2 i hi))⟩

/-- A region that draws its order, in a round: walked as anywhere, and it comes to its end. -/
theorem wpIn_region_held_drew {F : Fence} {n : Nat} {ops : Array Oper} {Q : Exit → Act → World → Prop} {S : World → Prop} {id : Nat} {a : Act} {w : World} (hF : F.fn = fun _ => True) (hdp : F.depth = none) (hal : F.alive = false) (hnd : (ops.toList.all fun o => match o.op with | .defer _ => false | _ => true) = true)
    (hm : P.follows .mixedOrders = true) (hS : S w.drew) (h : S w.drew → wpAnyH P .any ops (onlyN (fun a w => Q .normal a w)) S ops.size (Array.replicate ops.size false) a w.drew) : (Code.region id ops true).wpIn F n P Q a w := by
  have hnd' : ∀ (i : Nat) o, ops[i]? = some o → ∀ c, o.op ≠ .defer c := fun i o ho c hc => by
    have hm : o ∈ ops.toList := by
      have h2 : ops.toList[i]? = some o := by simpa using ho
      exact List.mem_of_getElem? h2
    have := List.all_eq_true.1 hnd o hm
    rw [hc] at this
    cases this
  refine wpIn_mono (Q := onlyN (fun a w => Q .normal a w)) (wpIn_region_any hm (anyIn_of_held hF hdp hal hnd' (by rintro ⟨_, _, h⟩; exact h) _ _ _ _ (h hS))) ?_
  intro e a w h
  cases e <;> first | exact h | exact h.elim
end
end Go.SL
namespace Go.SL
section
variable {P : Program} {ops : Array Oper} {rest : List Oper} {o : Oper} {a : Act} {Q : Exit → Act → World → Prop} {w : World} {l : List HProp}
theorem wpl_st1 (hE : Ent l w) (i : Nat) {b : Nat} {cs : List Value} {T : TypeId} (hi : l[i]? = some (pt b (.cells cs.toArray T (0, 0))))
    {t : TypeId} {x y : Operand} (ho : o.op = .store t x y) (hw : Region.wanted o (yielded ops a.tmps) = true) {off : Nat} (hx : a.eval x = .pointer (some ⟨b, off, none⟩)) {v : Value} (hy : a.eval y = v)
    (hn : ∀ w, (Go.sizeOf t).run P w = .ok 1 w) (hv : v.cells = #[v]) (h1 : v.oneCell' = true) (hfit : off < cs.length)
    (h : ∀ w', Ent (l.set i (pt b (.cells (cs.set off v).toArray T (0, 0)))) w' → wpList P ops Q rest (a.put o.dst undef) w') : wpList P ops Q (o :: rest) a w := by
  refine wpl_store hE i hi ho hw hx hy hn (by rw [hv]; rfl) (by rw [hv]; simpa using h1) (by simp; omega) fun w' hE' => h w' ?_
  have e : (cs.toArray.toList.take off ++ v.cells.toList ++ cs.toArray.toList.drop (off + v.cells.toList.length)).toArray = (cs.set off v).toArray := by
    rw [hv]
    simp only [List.toList_toArray, List.length_cons, List.length_nil, Nat.zero_add]
    rw [List.set_eq_take_append_cons_drop, if_pos hfit]
    simp
  rw [e] at hE'
  exact hE'
/-- the same, the block's place found by the lemma's own tactic -/
theorem stX (hE : Ent l w) {b : Nat} {cs cs' : List Value} {T : TypeId} {t : TypeId} {x y : Operand} {off : Nat} {v : Value} {l' : List HProp}
    (h : ∀ w', Ent l' w' → wpList P ops Q rest (a.put o.dst undef) w')
    (ho : o.op = .store t x y := by with_reducible rfl) (hw : Region.wanted o (yielded ops a.tmps) = true := by rfl)
    (hx : a.eval x = .pointer (some ⟨b, off, none⟩) := by rfl)
    (hy : a.eval y = v := by first | (simp only [Act.eval, getD_lit, List.getD_cons_succ, List.getD_cons_zero]; rfl) | rfl)
    (hn : ∀ w, (Go.sizeOf t).run P w = .ok 1 w := by first | (simp [go_sem]; done) | (simp [go_sem]; rfl))
    (hu : Upd (pt b (.cells cs.toArray T (0, 0))) (pt b (.cells cs'.toArray T (0, 0))) l l' := by first | ((repeat (first | with_reducible exact Upd.z | apply Upd.s)); done) | ((repeat (first | exact Upd.z | apply Upd.s)); done))
    (hs : cs.set off v = cs' := by first | (simp only [List.set_cons_zero, List.set_cons_succ]; rfl) | rfl)
    (hv : v.cells = #[v] := by rfl) (h1 : v.oneCell' = true := by rfl) (hfit : off < cs.length := by simp) : wpList P ops Q (o :: rest) a w := by
  subst hs
  obtain ⟨i, hi, rfl⟩ := hu.at
  exact wpl_st1 hE i hi ho hw hx hy hn hv h1 hfit h
end
end Go.SL
namespace Go.SL
section
variable {P : Program} {ops : Array Oper} {rest : List Oper} {o : Oper} {a : Act} {Q : Exit → Act → World → Prop} {w : World} {l : List HProp}
theorem wpl_strBs (hE : Ent l w) {src dst e : TypeId} {x : Operand} (ho : o.op = .convert src dst x) (hw : Region.wanted o (yielded ops a.tmps) = true) {bs : List UInt8} (hx : a.eval x = .string ⟨bs.toArray⟩)
    (hs : P.underlying src = some .string) (hd : P.underlying dst = some (.slice e)) (he : P.underlying e = some (.int .u8))
    (h : ∀ (b c : Nat) (C : Array Value) (fz : Nat × Nat) w', bs.length ≤ c → (∀ (j : Nat) (u : Value), (bs.map fun b => Value.int .u8 b.toNat)[j]? = some u → C[j]? = some u) → Ent (pt b (.cells C e fz) :: l) w' → wpList P ops Q rest (a.put o.dst (.slice (some ⟨b, 0, none⟩) bs.length c)) w') : wpList P ops Q (o :: rest) a w := by
  have hr := Lib.run_convert_string_bytes (P := P) w src dst e ⟨bs.toArray⟩ hs hd he
  have hsz : (ByteArray.mk bs.toArray).size = bs.length := by simp [ByteArray.size]
  rw [hsz] at hr
  refine wpl_run hw (w' := Lib.bytesWorld w e ⟨bs.toArray⟩) (v := .slice (some ⟨w.heap.size, 0, none⟩) bs.length (grownCap w bs.length 0 e)) ?_ (h _ _ (Lib.bytesCells w e ⟨bs.toArray⟩) ((Lib.bytesCells w e ⟨bs.toArray⟩).size, (Lib.bytesCells w e ⟨bs.toArray⟩).size + 1) _ (grownCap_ge _ _ _ _) ?_ ?_)
  · simp [execOp, ho, hx, hr]
  · intro j u hu
    have hj := (List.getElem?_eq_some_iff.1 hu).1
    unfold Lib.bytesCells
    rw [Array.getElem?_append_left (by simpa using hj)]
    simpa using hu
  · refine hE.step0 (Bs := [pt w.heap.size _]) ⟨rfl, rfl, rfl⟩ (by rw [Lib.bytesWorld_size]; omega) (fun b hb => Lib.bytesWorld_at_old w e _ b hb) ⟨fun b => b = w.heap.size, on_single ?_, fun b hb => by omega⟩
    unfold pt
    exact ⟨Lib.bytesWorld_at_new w e _, fun _ => Iff.rfl⟩
end
end Go.SL
namespace Go.Proofs.YtehfbokkcamliaaDoor
open Go.RowKit Go.SL
attribute [local go_sem] Oper.semAt_some wide_fnC wide_depthC

theorem kidCells_drop : ∀ {ks : List Kid}, (∀ k ∈ ks, k.good) → ∀ i, (kidCells ks).drop (i * 36) = kidCells (ks.drop i)
  | _, _, 0 => by simp
  | [], _, i + 1 => by simp [kidCells]
  | k :: ks, h, i + 1 => by
    have h1 := kcells_len (h k (List.mem_cons_self ..))
    have ih := kidCells_drop (ks := ks) (fun x hx => h x (List.mem_cons_of_mem _ hx)) i
    rw [List.drop_succ_cons, ← ih, kidCells, List.flatMap_cons, show (i + 1) * 36 = (kcells k).length + i * 36 by omega, ← List.drop_drop, List.drop_left]
    rfl
theorem kidCells_app (a b : List Kid) : kidCells (a ++ b) = kidCells a ++ kidCells b := by simp [kidCells]
theorem kidCells_take {ks : List Kid} (h : ∀ k ∈ ks, k.good) (i : Nat) : (kidCells ks).take (i * 36) = kidCells (ks.take i) := by
  by_cases hi : i ≤ ks.length
  · have hl : (kidCells (ks.take i)).length = i * 36 := by rw [kidCells_len (fun k hk => h k (List.mem_of_mem_take hk)), List.length_take, Nat.min_eq_left hi]
    conv => lhs; rw [← List.take_append_drop i ks, kidCells_app]
    rw [List.take_left' hl]
  · rw [List.take_of_length_le (by rw [kidCells_len h]; omega), List.take_of_length_le (by omega)]
theorem pcB_reads {w : World} {data : List UInt8} {ad : Option Addr} {cd k : Nat} (hk : k < pcN 240 data.length) (hc : data.length ≤ cd) (hr : reads (.slice ad data.length cd) data.length (bvals data) w) :
    reads (pcV 1 240 ad data.length cd k) (pcAt 240 data k).length (bvals (pcAt 240 data k)) w := by
  have h := reads_pc (m := 240) (by omega) hr (by rw [bvals_length, Nat.mul_one]) hc hk
  have e1 : (pcAt 240 data k).length = min 240 (data.length - 240 * k) := by rw [pcAt, List.length_take, List.length_drop]
  have e2 : bvals (pcAt 240 data k) = ((bvals data).drop (240 * k * 1)).take (240 * 1) := by simp [pcAt, bvals, List.map_take, List.map_drop]
  rw [e1, e2]
  exact h
theorem pcK_reads {w : World} {ks : List Kid} (hg : ∀ k ∈ ks, k.good) {ad : Option Addr} {cd k : Nat} (hk : k < pcN 6 ks.length) (hc : ks.length ≤ cd) (hr : reads (.slice ad ks.length cd) ks.length (kidCells ks) w) :
    reads (pcV 36 6 ad ks.length cd k) (pcAt 6 ks k).length (kidCells (pcAt 6 ks k)) w := by
  have h := reads_pc (m := 6) (by omega) hr (kidCells_len hg) hc hk
  have e1 : (pcAt 6 ks k).length = min 6 (ks.length - 6 * k) := by rw [pcAt, List.length_take, List.length_drop]
  have e2 : kidCells (pcAt 6 ks k) = ((kidCells ks).drop (6 * k * 36)).take (6 * 36) := by
    rw [kidCells_drop hg, kidCells_take (fun x hx => hg x (List.mem_of_mem_drop hx)), pcAt]
  rw [e1, e2]
  exact h
theorem blobs_take {d : List UInt8} {k : Nat} (h : k < pcN 240 d.length) : (blobs d).take (k + 1) = (blobs d).take k ++ [⟨1, pcAt 240 d k, []⟩] := by
  rw [List.take_succ_eq_append_getElem (by rw [blobs_len]; exact h)]
  congr 2
  simp [blobs, pcsL]
theorem level_take {ks : List Kid} {k : Nat} (h : k < pcN 6 ks.length) : (level ks).take (k + 1) = (level ks).take k ++ [⟨2, [], pcAt 6 ks k⟩] := by
  rw [List.take_succ_eq_append_getElem (by rw [level_len]; exact h)]
  congr 2
  simp [level, pcsL]

theorem Kn_left {m l : List HProp} {p : World → Prop} (h : Knows m p) : Knows (m ++ l) p := fun w hw => h w (hw.perm List.perm_append_comm).drop
abbrev rowK (ao : Option Addr) (c : Nat) (ks : List Kid) : HProp := row 55 36 (.slice ao ks.length c) ks.length (kidCells ks)
/-- a level of kids, and the cell that holds it -/
def lvI (b : Nat) (ks : List Kid) : HProp := ex fun z : Option Addr × Nat => [pt b (.cells #[.slice z.1 ks.length z.2] 47), rowK z.1 z.2 ks]
theorem info_kid : elemInfo Tryd.prog 55 = some (some 36, 36, 56) := by kernel_rfl
theorem zs_kid : zeroSize Tryd.prog 55 = some 36 := by kernel_rfl

/-- behind so many blobs -/
def fiI (bx b2 bd b4 b5 : Nat) (C cs : Array Value) (fz : Nat × Nat) (data : List UInt8) (out : List (List UInt8)) (l : List HProp) (pre : List Value) : List HProp :=
  xOut bx (out ++ ((blobs data).take pre.length).map putC) :: lvI b5 (((blobs data).take pre.length).map kidOf) :: pt b2 (.cells #[.pointer (some ⟨bx, 0, none⟩)] 74) :: pt bd (.cells C 5 fz) :: pt b4 (.cells cs 55 (0, 0)) :: l
/-- behind so many indices of a level -/
def idI (bx b2 b4 b5 b7 : Nat) (ao : Option Addr) (c : Nat) (cs : Array Value) (ks : List Kid) (out : List (List UInt8)) (l : List HProp) (pre : List Value) : List HProp :=
  xOut bx (out ++ ((level ks).take pre.length).map putC) :: lvI b7 (((level ks).take pre.length).map kidOf) :: pt b2 (.cells #[.pointer (some ⟨bx, 0, none⟩)] 74) :: rowK ao c ks :: pt b5 (.cells #[.slice ao ks.length c] 47) :: pt b4 (.cells cs 55 (0, 0)) :: l

/-- what is so far put, and what is still to be put -/
def Fil (data : List UInt8) (dn : List Chunk) (f : Nat) (ks : List Kid) : Prop :=
  fileC data = (dn ++ (tower f ks).1, (tower f ks).2) ∧ ks.length ≤ f ∧ ks ≠ [] ∧ sum1 ks < 4294967296 ∧ dn.length + f * 250 ≤ 70000 ∧ ∃ h, Fit h ks ∧ h + f ≤ 250
theorem fil_start {data : List UInt8} (hd : data.length ≤ 50000) : Fil data (blobs data) (blobs data).length ((blobs data).map kidOf) := by
  obtain ⟨_, h2, h3⟩ := blobs_fit data (by omega)
  have hb : (blobs data).length ≤ 240 := by rw [blobs_len]; unfold pcN; omega
  exact ⟨rfl, by simp, h3, by rw [blobs_sum]; omega, by omega, 0, h2, by omega⟩
theorem fil_step {data : List UInt8} {dn : List Chunk} {f : Nat} {ks : List Kid} (h : Fil data dn f ks) (h1 : 1 < ks.length) : (∀ c ∈ level ks, mayC c = true ∧ c.good ∧ c.kind = 2) ∧ (∀ k ∈ (level ks).map kidOf, k.good) ∧ ∃ f', Fil data (dn ++ level ks) f' ((level ks).map kidOf) := by
  obtain ⟨e, hf, h0, hs, hdn, hh, hfit, hle⟩ := h
  obtain ⟨g, rfl⟩ : ∃ g, f = g + 1 := ⟨f - 1, by omega⟩
  obtain ⟨a, b, c, d⟩ := level_fit hfit h0 hs (by omega)
  have hll : (level ks).length < ks.length := by rw [level_len]; exact pcN_lt h1
  refine ⟨a, fun k hk => (b k hk).2.2, g, ?_, ?_, d, c, by rw [List.length_append]; omega, hh + 1, b, by omega⟩
  · rw [e, tower, if_neg (by omega)]
    simp
  · rw [List.length_map, level_len]
    have := pcN_lt h1
    omega
theorem fil_end {data : List UInt8} {dn : List Chunk} {f : Nat} {ks : List Kid} (h : Fil data dn f ks) (h1 : ¬ 1 < ks.length) : ∃ k, ks = [k] ∧ fileC data = (dn, k) ∧ k.good := by
  obtain ⟨e, hf, h0, hs, hdn, hh, hfit, hle⟩ := h
  cases ks with
  | nil => exact absurd rfl h0
  | cons k t =>
    cases t with
    | cons a t => simp at h1
    | nil =>
      refine ⟨k, rfl, ?_, (hfit k (List.mem_cons_self ..)).2.2⟩
      rw [e]
      cases f with
      | zero => simp [tower]
      | succ g => simp [tower]
theorem fil_good {data : List UInt8} {dn : List Chunk} {f : Nat} {ks : List Kid} (h : Fil data dn f ks) : ∀ k ∈ ks, k.good := by
  obtain ⟨_, _, _, _, _, _, hfit, _⟩ := h
  exact fun k hk => (hfit k hk).2.2
theorem fil_len {data : List UInt8} {dn : List Chunk} {f : Nat} {ks : List Kid} (h : Fil data dn f ks) : ks.length ≤ 250 := by
  obtain ⟨_, h1, _, _, _, _, _, h2⟩ := h
  omega

/-- the loop over the levels: what its state holds -/
def FiI (bx b2 b4 b5 : Nat) (cs : Array Value) (data : List UInt8) (out : List (List UInt8)) (l : List HProp) (a : Act) (w : World) : Prop :=
  ∃ (Ds : List Nat) (us : List Value) (v3 : Value) (dn : List Chunk) (f : Nat) (ks : List Kid), us.length = 32 ∧ a.defers = Ds.map mkD ∧
    a.tmps = (.pointer (some ⟨bx, 0, none⟩) :: .string ⟨data.toArray⟩ :: .pointer (some ⟨b2, 0, none⟩) :: v3 :: .pointer (some ⟨b4, 0, none⟩) :: .pointer (some ⟨b5, 0, none⟩) :: us).toArray ∧
    Fil data dn f ks ∧ Ent (xOut bx (out ++ dn.map putC) :: lvI b5 ks :: pt b2 (.cells #[.pointer (some ⟨bx, 0, none⟩)] 74) :: pt b4 (.cells cs 55 (0, 0)) :: (l ++ Ds.map ptD)) w

set_option maxRecDepth 100000 in
set_option maxHeartbeats 8000000 in
theorem file_any {data : List UInt8} (hd : data.length ≤ 50000) {bx : Nat} {out : List (List UInt8)} (ho : out.length ≤ 900000000000) {l : List HProp} {w : World} (ht : Knows l KTab) (hf : Knows l FTab) (hE : Ent (xOut bx out :: l) w) :
    Calls Tryd.prog 53 #[.pointer (some ⟨bx, 0, none⟩), .string ⟨data.toArray⟩] w
      (Ret fun v w' => v = .agg (kcells (fileC data).2).toArray ∧ Ent (xOut bx (out ++ (fileC data).1.map putC) :: l) w') := by
  have Ht := SL.hid ht
  have Hf := SL.hid hf
  clear ht hf
  refine calls_of_marks Tryd.func53 rfl ?_
  simp only [Tryd.ntmps53, List.size_toArray, List.length_cons, List.length_nil, Nat.reduceAdd, Nat.reduceSub, Array.replicate_succ, Array.replicate_zero, List.push_toArray, List.append_toArray, List.nil_append, List.cons_append]
  go_wp2_with (first
    | go_skip
    | (refine bxX hE ?_; clear hE; intro b2 w hE)
    | ((with_reducible (show Go.wpList _ _ _ (Go.Oper.mk _ (.alloc 55) _ _ _ _ :: _) _ _)); refine wpl_allocN hE rfl rfl (n := 36) (by kernel_rfl) ?_; clear hE; intro b4 cs w1 hq hE)
    | ((with_reducible (show Go.wpList _ _ _ (Go.Oper.mk _ (.alloc 47) _ _ _ _ :: _) _ _)); refine wpl_alloc hE rfl rfl (by simp [go_sem]; rfl) ?_; clear hE; intro b5 w hE; simp only [Act.eval, Act.put, List.setIfInBounds_toArray, List.set_cons_zero, List.set_cons_succ, getD_lit, List.getD_cons_succ, List.getD_cons_zero, Value.cells] at hE)
    | ((with_reducible (show Go.wpList _ _ _ (Go.Oper.mk _ (.convert 9 52 _) _ _ _ _ :: _) _ _)); refine wpl_strBs hE rfl rfl rfl Tryd.underlying9 Tryd.underlying52 Tryd.underlying5 ?_; clear hE; intro bd cd C fz w1 hcd hC hE)
    | (go_at_call 85; refine (piecesB 240 _ _ _ hE).mono ?_; clear hE; rintro e w5 ⟨v, rfl, bl, bm, rfl, hE⟩))
  have hq0 : out ++ ((blobs data).take 0).map putC = out := by simp
  have HC := SL.hid hC
  have Hq := SL.hid hq
  clear hC hq
  have HQ0 := SL.hid hq0
  clear hq0
  refine wpIn_wide.1 (wpIn_rangeSL (gf := 108) rfl (enters_of Tryd.func108 (by kernel_rfl) rfl) (pieces_iterB 240 (by omega) (by omega) (some ⟨bd, 0, none⟩) data.length cd hcd bl bm) (fun _ => rfl) (fiI bx b2 bd b4 b5 C cs.toArray fz data out l) (fun _ _ => [ex fun _ : False => []]) ?e0
    ?act ?assign ?body ?done ?stop)
  case e0 =>
    have h := Ent.pack (f := fun z : Option Addr × Nat => [pt b5 (.cells #[.slice z.1 ([] : List Kid).length z.2] 47), rowK z.1 z.2 []]) (none, 0) ((hE.nil 55 36).front 4 rfl)
    show Ent (pcStB 240 (some ⟨bd, 0, none⟩) data.length cd bl bm [] ++ (xOut bx (out ++ ((blobs data).take 0).map putC) :: lvI b5 [] :: pt b2 (.cells #[.pointer (some ⟨bx, 0, none⟩)] 74) :: pt bd (.cells C 5 fz) :: pt b4 (.cells cs.toArray 55 (0, 0)) :: l)) _
    rw [HQ0.out]
    exact ((((((h.front 4 rfl).front 4 rfl).front 5 rfl).front 3 rfl).front 6 rfl).front 6 rfl).front 6 rfl
  case assign =>
    intro lp x W K hK
    gi_wp2
    exact hK
  case stop =>
    intro D c pre W hpre hW
    obtain ⟨h, _⟩ := (hW.front 1 rfl).unpack
    exact h.elim
  case body =>
    intro lp pre x W L hpre hW
    obtain ⟨hk, hx⟩ := pcVs_at hpre
    obtain ⟨⟨ao, c⟩, hW'⟩ := (hW.front 1 rfl).unpack
    have Hst := SL.hid (blobs_take hk)
    have HtL := SL.hid (Kn_left (l := L) Ht.out)
    have HfL := SL.hid (Kn_left (l := L) Hf.out)
    have Hpc := SL.hid (fun (w : World) (hr : reads (.slice (some ⟨bd, 0, none⟩) data.length cd) data.length (bvals data) w) => pcB_reads hk hcd hr)
    have hlen : (blobs data).length ≤ 240 := by rw [blobs_len]; unfold pcN; omega
    have hm : mayC ⟨1, pcAt 240 data pre.length, []⟩ = true := may_blob (pcAt_len 240 data pre.length)
    have hgd : (Chunk.mk 1 (pcAt 240 data pre.length) []).good := fun k hk => absurd hk (List.not_mem_nil)
    have hsz : csize ⟨1, pcAt 240 data pre.length, []⟩ < 4294967296 := by
      have := pcAt_len 240 data pre.length
      have e : csize ⟨1, pcAt 240 data pre.length, []⟩ = (pcAt 240 data pre.length).length := by simp [csize]
      rw [e]; omega
    rw [← hx] at Hpc
    have HI := SL.hid (show fiI bx b2 bd b4 b5 C cs.toArray fz data out l (pre ++ [x]) = xOut bx ((out ++ ((blobs data).take pre.length).map putC) ++ [putC (Chunk.mk 1 (pcAt 240 data pre.length) [])]) :: lvI b5 (((blobs data).take pre.length).map kidOf ++ [kidOf (Chunk.mk 1 (pcAt 240 data pre.length) [])]) :: pt b2 (.cells #[.pointer (some ⟨bx, 0, none⟩)] 74) :: pt bd (.cells C 5 fz) :: pt b4 (.cells cs.toArray 55 (0, 0)) :: l by
      have h1 := Hst.out
      simp only [fiI, List.length_append, List.length_singleton, h1, List.map_append, List.map_cons, List.map_nil, List.append_assoc])
    have hbl : ((blobs data).take pre.length).length ≤ 250 := by rw [List.length_take]; omega
    have Hin := SL.hid (show fiI bx b2 bd b4 b5 C cs.toArray fz data out l pre = xOut bx (out ++ ((blobs data).take pre.length).map putC) :: lvI b5 (((blobs data).take pre.length).map kidOf) :: pt b2 (.cells #[.pointer (some ⟨bx, 0, none⟩)] 74) :: pt bd (.cells C 5 fz) :: pt b4 (.cells cs.toArray 55 (0, 0)) :: l from rfl)
    have hkl : (((blobs data).take pre.length).map kidOf).length ≤ 1000 := by rw [List.length_map]; omega
    have hol : (out ++ ((blobs data).take pre.length).map putC).length ≤ 1000000000000 := by rw [List.length_append, List.length_map]; omega
    replace hW : Ent (xOut bx (out ++ ((blobs data).take pre.length).map putC) :: pt b5 (.cells #[.slice ao (((blobs data).take pre.length).map kidOf).length c] 47) :: rowK ao c (((blobs data).take pre.length).map kidOf) :: pt b2 (.cells #[.pointer (some ⟨bx, 0, none⟩)] 74) :: pt bd (.cells C 5 fz) :: pt b4 (.cells cs.toArray 55 (0, 0)) :: (l ++ L)) W := hW'.front 2 rfl
    clear hW' Hst Hin hbl hlen
    generalize out ++ ((blobs data).take pre.length).map putC = oo at *
    generalize ((blobs data).take pre.length).map kidOf = ks at *
    generalize pcAt 240 data pre.length = p at *
    have hkid := kidOf_good hsz
    have Hlen := SL.hid (kcells_len hkid)
    have Hone := SL.hid (kcells_one (kidOf (Chunk.mk 1 p [])))
    have Hkx := SL.hid (show kidCells (ks ++ [kidOf (Chunk.mk 1 p [])]) = kidCells ks ++ kcells (kidOf (Chunk.mk 1 p [])) by simp [kidCells])
    have HX := SL.hid (fun (LL : List HProp) (w : World) (hl : (l ++ L) <:+ LL) (hE : Ent (xOut bx oo :: LL) w) =>
      show Calls Tryd.prog 54 #[.pointer (some ⟨bx, 0, none⟩), .agg #[.int .u8 1, .string ⟨p.toArray⟩, .slice none 0 0]] w
          (Ret fun v w' => v = .agg (kcells (kidOf (Chunk.mk 1 p []))).toArray ∧ Ent (xOut bx (oo ++ [putC (Chunk.mk 1 p [])]) :: LL) w') from put_any (u := 1) (ks := []) (ao := none) (c := 0) hgd hm hsz hol (HtL.out.suf hl) (HfL.out.suf hl) (fun w _ => reads_nil 0 0 rfl _) hE)
    clear hm hgd hsz hkid hpre hk hol hx
    generalize hkk : kidOf (Chunk.mk 1 p []) = kk at *
    clear hkk
    generalize putC (Chunk.mk 1 p []) = pb at *
    generalize hkx : kcells kk = kx at *
    clear hkx
    have hO := hW.drew
    gi_wp2
    refine wpIn_region_held_drew (S := (fun w' => (w'.cell? ⟨b2, 0, none⟩ = some (.pointer (some ⟨bx, 0, none⟩))))) rfl rfl rfl (by kernel_rfl) (by kernel_rfl) (cellVq hO) (fun hS => ?_)
    refine tL 1 hS ?_; refine tV 2 hS ?_
    refine wpAnyH_ready (rs := [0, 3]) (by kernel_rfl) (by simp) ?_
    refine (AllReadyH.cons (o := ⟨some 13, .load 47 (.tmp 5), _, _, _, none⟩) rfl (fun K hK => ?_) (AllReadyH.cons (o := ⟨some 16, .convert 52 9 (.tmp 15), _, _, _, none⟩) rfl (fun K hK => ?_) AllReadyH.nil))
    focus
      (first | refine step_load1 hO 1 rfl rfl (by rfl) (by rfl) (by simp [go_sem]) rfl ?_ | refine step_load1 hO 2 rfl rfl (by rfl) (by rfl) (by simp [go_sem]) rfl ?_)
      refine tK hK (cellVq hO) (fun hS => ?_); clear hK K
      refine tO 3 (fun K hK => ?_)
      (refine stp_bytesStr rfl (by rfl) (by rfl) Tryd.underlying52 Tryd.underlying5 Tryd.underlying9 (Hpc.out _ (reads_pt hO 4 rfl (off := 0) (fun j u hu => by rw [Nat.zero_add]; exact HC.out j u hu))) rfl ?_)
      refine tK hK (cellVq hO) (fun hS => ?_); clear hK K
      refine tV 4 hS ?_
      refine tO 5 (fun K hK => ?_)
      (go_simp; refine (HX.out _ _ sfx hO).mono ?_; clear hO; rintro e w5 ⟨v, h1, h2, hO⟩; cases h1; cases h2)
      refine tK hK (cellVq hO) (fun hS => ?_); clear hK K
      refine tO 6 (fun K hK => ?_)
      (refine stp_build1 hO rfl (by rfl) (xs := kx) (by rfl) Tryd.underlying47 zs_kid Tryd.sizeOf55 (by decide) (by decide) Hlen.out ?_; clear hO; intro b9 w7 hO)
      refine tK hK (cellVq hO) (fun hS => ?_); clear hK K
      refine tO 7 (fun K hK => ?_)
      (refine step_appendG hO 3 rfl rfl (by rfl) (by rfl) (by rfl) Tryd.underlying47 info_kid (by decide) (m := 1) (news := kx) (reads_pt hO 0 rfl (off := 0) (fun j u hu => by rw [Nat.zero_add, List.getElem?_toArray]; exact hu)) (by rw [Hlen.out]) Hone.out (by omega) (by omega) ?_; clear hO; intro an cn w8 hO; simp only [List.set_cons_zero, List.set_cons_succ] at hO)
      refine tK hK (cellVq hO) (fun hS => ?_); clear hK K
      refine tO 8 (fun K hK => ?_)
      (refine stp_setC hO 2 rfl rfl (by rfl) (by rfl) (by rfl) Tryd.sizeOf47 rfl rfl (by simp) ?_; clear hO; intro w9 hO; simp only [List.set_cons_zero, List.set_cons_succ] at hO)
      refine tK hK (cellVq hO) (fun hS => ?_); clear hK K
      refine wpAnyH_done (by kernel_rfl) ?_ _
    rotate_right
    focus
      (refine stp_bytesStr rfl (by rfl) (by rfl) Tryd.underlying52 Tryd.underlying5 Tryd.underlying9 (Hpc.out _ (reads_pt hO 4 rfl (off := 0) (fun j u hu => by rw [Nat.zero_add]; exact HC.out j u hu))) rfl ?_)
      refine tK hK (cellVq hO) (fun hS => ?_); clear hK K
      refine tV 4 hS ?_
      refine wpAnyH_ready (rs := [0, 5]) (by kernel_rfl) (by simp) ?_
      refine (AllReadyH.cons (o := ⟨some 13, .load 47 (.tmp 5), _, _, _, none⟩) rfl (fun K hK => ?_) (AllReadyH.cons (o := ⟨some 18, .call { callee := .value (.func 54), args := #[.tmp 14, .tmp 17], argTypes := #[74, 49] }, _, _, _, none⟩) rfl (fun K hK => ?_) AllReadyH.nil))
      focus
        (first | refine step_load1 hO 1 rfl rfl (by rfl) (by rfl) (by simp [go_sem]) rfl ?_ | refine step_load1 hO 2 rfl rfl (by rfl) (by rfl) (by simp [go_sem]) rfl ?_)
        refine tK hK (cellVq hO) (fun hS => ?_); clear hK K
        refine tO 5 (fun K hK => ?_)
        (go_simp; refine (HX.out _ _ sfx hO).mono ?_; clear hO; rintro e w5 ⟨v, h1, h2, hO⟩; cases h1; cases h2)
        refine tK hK (cellVq hO) (fun hS => ?_); clear hK K
        refine tO 6 (fun K hK => ?_)
        (refine stp_build1 hO rfl (by rfl) (xs := kx) (by rfl) Tryd.underlying47 zs_kid Tryd.sizeOf55 (by decide) (by decide) Hlen.out ?_; clear hO; intro b9 w7 hO)
        refine tK hK (cellVq hO) (fun hS => ?_); clear hK K
        refine tO 7 (fun K hK => ?_)
        (refine step_appendG hO 3 rfl rfl (by rfl) (by rfl) (by rfl) Tryd.underlying47 info_kid (by decide) (m := 1) (news := kx) (reads_pt hO 0 rfl (off := 0) (fun j u hu => by rw [Nat.zero_add, List.getElem?_toArray]; exact hu)) (by rw [Hlen.out]) Hone.out (by omega) (by omega) ?_; clear hO; intro an cn w8 hO; simp only [List.set_cons_zero, List.set_cons_succ] at hO)
        refine tK hK (cellVq hO) (fun hS => ?_); clear hK K
        refine tO 8 (fun K hK => ?_)
        (refine stp_setC hO 2 rfl rfl (by rfl) (by rfl) (by rfl) Tryd.sizeOf47 rfl rfl (by simp) ?_; clear hO; intro w9 hO; simp only [List.set_cons_zero, List.set_cons_succ] at hO)
        refine tK hK (cellVq hO) (fun hS => ?_); clear hK K
        refine wpAnyH_done (by kernel_rfl) ?_ _
      rotate_right
      focus
        (go_simp; refine (HX.out _ _ sfx hO).mono ?_; clear hO; rintro e w5 ⟨v, h1, h2, hO⟩; cases h1; cases h2)
        refine tK hK (cellVq hO) (fun hS => ?_); clear hK K
        refine wpAnyH_ready (rs := [0, 6]) (by kernel_rfl) (by simp) ?_
        refine (AllReadyH.cons (o := ⟨some 13, .load 47 (.tmp 5), _, _, _, none⟩) rfl (fun K hK => ?_) (AllReadyH.cons (o := ⟨some 19, .buildSlice 47 1 #[(0, .tmp 18)], _, _, _, none⟩) rfl (fun K hK => ?_) AllReadyH.nil))
        focus
          (first | refine step_load1 hO 1 rfl rfl (by rfl) (by rfl) (by simp [go_sem]) rfl ?_ | refine step_load1 hO 2 rfl rfl (by rfl) (by rfl) (by simp [go_sem]) rfl ?_)
          refine tK hK (cellVq hO) (fun hS => ?_); clear hK K
          refine tO 6 (fun K hK => ?_)
          (refine stp_build1 hO rfl (by rfl) (xs := kx) (by rfl) Tryd.underlying47 zs_kid Tryd.sizeOf55 (by decide) (by decide) Hlen.out ?_; clear hO; intro b9 w7 hO)
          refine tK hK (cellVq hO) (fun hS => ?_); clear hK K
          refine tO 7 (fun K hK => ?_)
          (refine step_appendG hO 3 rfl rfl (by rfl) (by rfl) (by rfl) Tryd.underlying47 info_kid (by decide) (m := 1) (news := kx) (reads_pt hO 0 rfl (off := 0) (fun j u hu => by rw [Nat.zero_add, List.getElem?_toArray]; exact hu)) (by rw [Hlen.out]) Hone.out (by omega) (by omega) ?_; clear hO; intro an cn w8 hO; simp only [List.set_cons_zero, List.set_cons_succ] at hO)
          refine tK hK (cellVq hO) (fun hS => ?_); clear hK K
          refine tO 8 (fun K hK => ?_)
          (refine stp_setC hO 2 rfl rfl (by rfl) (by rfl) (by rfl) Tryd.sizeOf47 rfl rfl (by simp) ?_; clear hO; intro w9 hO; simp only [List.set_cons_zero, List.set_cons_succ] at hO)
          refine tK hK (cellVq hO) (fun hS => ?_); clear hK K
          refine wpAnyH_done (by kernel_rfl) ?_ _
        rotate_right
        focus
          (refine stp_build1 hO rfl (by rfl) (xs := kx) (by rfl) Tryd.underlying47 zs_kid Tryd.sizeOf55 (by decide) (by decide) Hlen.out ?_; clear hO; intro b9 w7 hO)
          refine tK hK (cellVq hO) (fun hS => ?_); clear hK K
          refine tO 0 (fun K hK => ?_)
          (first | refine step_load1 hO 1 rfl rfl (by rfl) (by rfl) (by simp [go_sem]) rfl ?_ | refine step_load1 hO 2 rfl rfl (by rfl) (by rfl) (by simp [go_sem]) rfl ?_)
          refine tK hK (cellVq hO) (fun hS => ?_); clear hK K
          refine tO 7 (fun K hK => ?_)
          (refine step_appendG hO 3 rfl rfl (by rfl) (by rfl) (by rfl) Tryd.underlying47 info_kid (by decide) (m := 1) (news := kx) (reads_pt hO 0 rfl (off := 0) (fun j u hu => by rw [Nat.zero_add, List.getElem?_toArray]; exact hu)) (by rw [Hlen.out]) Hone.out (by omega) (by omega) ?_; clear hO; intro an cn w8 hO; simp only [List.set_cons_zero, List.set_cons_succ] at hO)
          refine tK hK (cellVq hO) (fun hS => ?_); clear hK K
          refine tO 8 (fun K hK => ?_)
          (refine stp_setC hO 2 rfl rfl (by rfl) (by rfl) (by rfl) Tryd.sizeOf47 rfl rfl (by simp) ?_; clear hO; intro w9 hO; simp only [List.set_cons_zero, List.set_cons_succ] at hO)
          refine tK hK (cellVq hO) (fun hS => ?_); clear hK K
          refine wpAnyH_done (by kernel_rfl) ?_ _
    all_goals
      refine onlyN_n ?_
      gi_wp2
      have hF := (hO.tail.front 2 rfl).front 2 rfl
      have q1 : (ks ++ [kk]).length = ks.length + 1 := by simp
      have hG := Ent.pack (f := fun z : Option Addr × Nat => [pt b5 (.cells #[.slice z.1 (ks ++ [kk]).length z.2] 47), rowK z.1 z.2 (ks ++ [kk])]) (an, cn) (by simp only [rowK, q1, Hkx.out]; exact hF)
      show Ent (fiI bx b2 bd b4 b5 C cs.toArray fz data out l (pre ++ [_]) ++ L) _
      rw [HI.out]
      exact hG.front 1 rfl

  case done =>
    intro D W hW
    rw [fiI, pcVs_len, ← blobs_len, List.take_length] at hW
    go_wp2
    have hfil0 := fil_start hd
    have Hoo := SL.hid (show ∀ (dn : List Chunk), dn.length ≤ 70000 → (out ++ dn.map putC).length ≤ 900000070000 from fun dn h => by rw [List.length_append, List.length_map]; omega)
    clear HQ0 hcd hE hd ho
    have HtB := SL.hid (Ht.out.cons (A := pt bd (.cells C 5 fz)))
    have HfB := SL.hid (Hf.out.cons (A := pt bd (.cells C 5 fz)))
    have hlast : ∀ (w : World), Ent (xOut bx (out ++ (fileC data).1.map putC) :: pt bd (.cells C 5 fz) :: l) w → Ent (xOut bx (out ++ (fileC data).1.map putC) :: l) w := fun w h => h.erase 1
    have Hlast := SL.hid hlast
    clear hlast
    have hW2 : Ent (xOut bx (out ++ (blobs data).map putC) :: lvI b5 ((blobs data).map kidOf) :: pt b2 (.cells #[.pointer (some ⟨bx, 0, none⟩)] 74) :: pt b4 (.cells cs.toArray 55 (0, 0)) :: ((pt bd (.cells C 5 fz) :: l) ++ [D].map ptD)) W := by
      have h := (((((hW.front 4 rfl).front 5 rfl).front 5 rfl).front 5 rfl).front 5 rfl).front 5 rfl
      exact h.perm (List.perm_append_singleton (ptD D) (xOut bx (out ++ (blobs data).map putC) :: lvI b5 ((blobs data).map kidOf) :: pt b2 (.cells #[.pointer (some ⟨bx, 0, none⟩)] 74) :: pt b4 (.cells cs.toArray 55 (0, 0)) :: pt bd (.cells C 5 fz) :: l)).symm
    clear hW
    generalize pt bd (.cells C 5 fz) :: l = lB at *
    refine wp_loop (FiI bx b2 b4 b5 cs.toArray data out lB) (fun _ w => sliceLeft b5 w) ⟨[D], _, _, _, _, _, rfl, rfl, rfl, hfil0, hW2⟩ ?_
    clear hW2 hfil0
    rintro a w ⟨Ds, us, v3, dn, f, ks0, hus, hds, htm, hfil, hE⟩
    obtain ⟨tmps, defers⟩ := a
    simp only at hds htm
    obtain ⟨x0, x1, x2, x3, x4, x5, x6, x7, x8, x9, x10, x11, x12, x13, x14, x15, x16, x17, x18, x19, x20, x21, x22, x23, x24, x25, x26, x27, x28, x29, x30, x31, rfl⟩ := list32 hus
    subst hds htm
    clear hus
    have Ht2 := SL.hid (Kn_left (l := Ds.map ptD) HtB.out)
    have Hf2 := SL.hid (Kn_left (l := Ds.map ptD) HfB.out)
    obtain ⟨⟨al, cl⟩, hE'⟩ := (hE.front 1 rfl).unpack
    have hcl := cap_row hE' 1 rfl
    replace hE : Ent (xOut bx (out ++ dn.map putC) :: pt b5 (.cells #[.slice al ks0.length cl] 47) :: rowK al cl ks0 :: pt b2 (.cells #[.pointer (some ⟨bx, 0, none⟩)] 74) :: pt b4 (.cells cs.toArray 55 (0, 0)) :: (lB ++ Ds.map ptD)) w := hE'.front 2 rfl
    clear hE'
    have Hsl := SL.hid (sliceLeft_eq (show w.cell? ⟨b5, 0, none⟩ = some (.slice al ks0.length cl) from hE.cell 1 rfl 0))
    have hdn := hfil.2.2.2.2.1
    have hoo := Hoo.out dn (by omega)
    have Hfil := SL.hid hfil
    clear hdn
    by_cases hlt : 1 < ks0.length
    · have hd1 : decide (1 < ks0.length) = true := decide_eq_true hlt
      have hd2 : decide ((1 : Int) < (ks0.length : Int)) = true := decide_eq_true (by omega)
      clear hfil
      obtain ⟨oo0, hoo0⟩ : ∃ o, o = out ++ dn.map putC := ⟨_, rfl⟩
      rw [← hoo0] at hE hoo
      have Hoo0 := SL.hid hoo0
      clear hoo0
      obtain ⟨l2, hl2⟩ : ∃ l2, l2 = lB ++ Ds.map ptD := ⟨_, rfl⟩
      rw [← hl2] at hE Ht2 Hf2
      have Hl2 := SL.hid hl2
      clear hl2
      go_wp2_with (first
        | go_skip
        | ((with_reducible (show Go.wpList _ _ _ (Go.Oper.mk _ (.alloc 47) _ _ _ _ :: _) _ _)); refine wpl_alloc hE rfl rfl (by simp [go_sem]; rfl) ?_; clear hE; intro b7 w hE; simp only [Act.eval, Act.put, List.setIfInBounds_toArray, List.set_cons_zero, List.set_cons_succ, getD_lit, List.getD_cons_succ, List.getD_cons_zero, Value.cells] at hE)
        | (refine ldX hE ?_)
        | (go_at_call 86; refine (piecesK 6 _ _ _ hE).mono ?_; clear hE; rintro e w5 ⟨v, rfl, bl, bm, rfl, hE⟩))
      have hq0 : oo0 ++ ((level ks0).take 0).map putC = oo0 := by simp
      have HQ0 := SL.hid hq0
      clear hq0
      refine wpIn_wide.1 (wpIn_rangeSL (gf := 109) rfl (enters_of Tryd.func109 (by kernel_rfl) rfl) (pieces_iterK 6 (by omega) (by omega) al ks0.length cl hcl bl bm) (fun _ => rfl) (idI bx b2 b4 b5 b7 al cl cs.toArray ks0 oo0 l2) (fun _ _ => [ex fun _ : False => []]) ?e02
        ?act2 ?assign2 ?body2 ?done2 ?stop2)
      case e02 =>
        have h := Ent.pack (f := fun z : Option Addr × Nat => [pt b7 (.cells #[.slice z.1 ([] : List Kid).length z.2] 47), rowK z.1 z.2 []]) (none, 0) ((hE.nil 55 36).front 3 rfl)
        show Ent (pcStK 6 al ks0.length cl bl bm [] ++ (xOut bx (oo0 ++ ((level ks0).take 0).map putC) :: lvI b7 [] :: pt b2 (.cells #[.pointer (some ⟨bx, 0, none⟩)] 74) :: rowK al cl ks0 :: pt b5 (.cells #[.slice al ks0.length cl] 47) :: pt b4 (.cells cs.toArray 55 (0, 0)) :: l2)) _
        rw [HQ0.out]
        have h1 : Ent (lvI b7 [] :: pcStK 6 al ks0.length cl bl bm [] ++ (xOut bx oo0 :: pt b5 (.cells #[.slice al ks0.length cl] 47) :: rowK al cl ks0 :: pt b2 (.cells #[.pointer (some ⟨bx, 0, none⟩)] 74) :: pt b4 (.cells cs.toArray 55 (0, 0)) :: l2)) _ := h
        exact (((((((h1.front 7 rfl).front 5 rfl).front 6 rfl).front 7 rfl).front 4 rfl).front 7 rfl).front 7 rfl).front 7 rfl
      case assign2 =>
        intro lp x W K hK
        gi_wp2
        exact hK
      case stop2 =>
        intro D c pre W hpre hW
        obtain ⟨h, _⟩ := (hW.front 1 rfl).unpack
        exact h.elim
      case body2 =>
        intro lp pre x W L hpre hW
        obtain ⟨hk, hx⟩ := pcVs_at hpre
        obtain ⟨⟨ao, c⟩, hW'⟩ := (hW.front 1 rfl).unpack
        have Hst := SL.hid (level_take hk)
        have HtL := SL.hid (Kn_left (l := L) Ht2.out)
        have HfL := SL.hid (Kn_left (l := L) Hf2.out)
        have Hpc := SL.hid (fun (w : World) (hr : reads (.slice al ks0.length cl) ks0.length (kidCells ks0) w) => pcK_reads (fil_good Hfil.out) hk hcl hr)
        obtain ⟨Hlv, _, _⟩ := fil_step Hfil.out hlt
        have hin : Chunk.mk 2 [] (pcAt 6 ks0 pre.length) ∈ level ks0 := by
          have h1 := Hst.out
          have h2 : Chunk.mk 2 [] (pcAt 6 ks0 pre.length) ∈ (level ks0).take (pre.length + 1) := by rw [h1]; simp
          exact List.mem_of_mem_take h2
        have hlen : (level ks0).length ≤ 250 := by
          have h1 := fil_len Hfil.out
          have h2 := pcN_lt hlt
          rw [level_len]; omega
        obtain ⟨hm, hgd, _⟩ := Hlv _ hin
        have hsz : csize ⟨2, [], pcAt 6 ks0 pre.length⟩ < 4294967296 := by
          have e : csize ⟨2, [], pcAt 6 ks0 pre.length⟩ = sum1 (pcAt 6 ks0 pre.length) := by simp [csize]
          rw [e]
          obtain ⟨_, _, _, hs, _⟩ := Hfil.out
          refine Nat.lt_of_le_of_lt (sum1_mem ?_) hs
          rw [pcsL]
          exact List.mem_map.2 ⟨pre.length, List.mem_range.2 hk, rfl⟩
        obtain ⟨xa, xc, hxf, _⟩ := pcV_form (sz := 36) (m := 6) (ao := al) (k := pre.length) hcl
        rw [← hx] at hxf
        have hpl : min 6 (ks0.length - 6 * pre.length) = (pcAt 6 ks0 pre.length).length := by rw [pcAt, List.length_take, List.length_drop]
        rw [hpl] at hxf
        subst hxf
        rw [← hx] at Hpc
        have HI := SL.hid (show idI bx b2 b4 b5 b7 al cl cs.toArray ks0 oo0 l2 (pre ++ [.slice xa (pcAt 6 ks0 pre.length).length xc]) = xOut bx ((oo0 ++ ((level ks0).take pre.length).map putC) ++ [putC (Chunk.mk 2 [] (pcAt 6 ks0 pre.length))]) :: lvI b7 (((level ks0).take pre.length).map kidOf ++ [kidOf (Chunk.mk 2 [] (pcAt 6 ks0 pre.length))]) :: pt b2 (.cells #[.pointer (some ⟨bx, 0, none⟩)] 74) :: rowK al cl ks0 :: pt b5 (.cells #[.slice al ks0.length cl] 47) :: pt b4 (.cells cs.toArray 55 (0, 0)) :: l2 by
          have h1 := Hst.out
          simp only [idI, List.length_append, List.length_singleton, h1, List.map_append, List.map_cons, List.map_nil, List.append_assoc])
        have hbl : ((level ks0).take pre.length).length ≤ 250 := by rw [List.length_take]; omega
        have Hin := SL.hid (show idI bx b2 b4 b5 b7 al cl cs.toArray ks0 oo0 l2 pre = xOut bx (oo0 ++ ((level ks0).take pre.length).map putC) :: lvI b7 (((level ks0).take pre.length).map kidOf) :: pt b2 (.cells #[.pointer (some ⟨bx, 0, none⟩)] 74) :: rowK al cl ks0 :: pt b5 (.cells #[.slice al ks0.length cl] 47) :: pt b4 (.cells cs.toArray 55 (0, 0)) :: l2 from rfl)
        have hkl : (((level ks0).take pre.length).map kidOf).length ≤ 1000 := by rw [List.length_map]; omega
        have hol : (oo0 ++ ((level ks0).take pre.length).map putC).length ≤ 1000000000000 := by rw [List.length_append, List.length_map]; omega
        replace hW : Ent (xOut bx (oo0 ++ ((level ks0).take pre.length).map putC) :: pt b7 (.cells #[.slice ao (((level ks0).take pre.length).map kidOf).length c] 47) :: rowK ao c (((level ks0).take pre.length).map kidOf) :: pt b2 (.cells #[.pointer (some ⟨bx, 0, none⟩)] 74) :: rowK al cl ks0 :: pt b5 (.cells #[.slice al ks0.length cl] 47) :: pt b4 (.cells cs.toArray 55 (0, 0)) :: (l2 ++ L)) W := hW'.front 2 rfl
        clear hW' Hst Hin hbl hlen
        generalize oo0 ++ ((level ks0).take pre.length).map putC = oo at *
        generalize ((level ks0).take pre.length).map kidOf = ks at *
        generalize pcAt 6 ks0 pre.length = p at *
        have hkid := kidOf_good hsz
        have Hlen := SL.hid (kcells_len hkid)
        have Hone := SL.hid (kcells_one (kidOf (Chunk.mk 2 [] p)))
        have Hkx := SL.hid (show kidCells (ks ++ [kidOf (Chunk.mk 2 [] p)]) = kidCells ks ++ kcells (kidOf (Chunk.mk 2 [] p)) by simp [kidCells])
        have HX := SL.hid (fun (LL : List HProp) (w : World) (hl : (l2 ++ L) <:+ LL) (hkn : Knows LL (reads (.slice xa p.length xc) p.length (kidCells p))) (hE : Ent (xOut bx oo :: LL) w) =>
          show Calls Tryd.prog 54 #[.pointer (some ⟨bx, 0, none⟩), .agg #[.int .u8 2, .string ⟨#[]⟩, .slice xa p.length xc]] w
              (Ret fun v w' => v = .agg (kcells (kidOf (Chunk.mk 2 [] p))).toArray ∧ Ent (xOut bx (oo ++ [putC (Chunk.mk 2 [] p)]) :: LL) w') from put_any (u := 2) (data := []) hgd hm hsz hol (HtL.out.suf hl) (HfL.out.suf hl) hkn hE)
        clear hm hgd hsz hkid hpre hk hol hx
        generalize hkk : kidOf (Chunk.mk 2 [] p) = kk at *
        clear hkk
        generalize putC (Chunk.mk 2 [] p) = pb at *
        generalize hkx : kcells kk = kx at *
        clear hkx
        have hO := hW.drew
        gi_wp2
        refine wpIn_region_held_drew (S := (fun w' => (w'.cell? ⟨b2, 0, none⟩ = some (.pointer (some ⟨bx, 0, none⟩))))) rfl rfl rfl (by kernel_rfl) (by kernel_rfl) (cellVq hO) (fun hS => ?_)
        refine tL 1 hS ?_; refine tV 2 hS ?_; refine tV 3 hS ?_
        refine wpAnyH_ready (rs := [0, 4]) (by kernel_rfl) (by simp) ?_
        refine (AllReadyH.cons (o := ⟨some 27, .load 47 (.tmp 7), _, _, _, none⟩) rfl (fun K hK => ?_) (AllReadyH.cons (o := ⟨some 31, .call { callee := .value (.func 54), args := #[.tmp 28, .tmp 30], argTypes := #[74, 49] }, _, _, _, none⟩) rfl (fun K hK => ?_) AllReadyH.nil))
        focus
          (first | refine step_load1 hO 1 rfl rfl (by rfl) (by rfl) (by simp [go_sem]) rfl ?_ | refine step_load1 hO 2 rfl rfl (by rfl) (by rfl) (by simp [go_sem]) rfl ?_)
          refine tK hK (cellVq hO) (fun hS => ?_); clear hK K
          refine tO 4 (fun K hK => ?_)
          (go_simp; refine (HX.out _ _ sfx (fun w h => Hpc.out w (reads_row h 3 rfl)) hO).mono ?_; clear hO; rintro e w5 ⟨v, h1, h2, hO⟩; cases h1; cases h2)
          refine tK hK (cellVq hO) (fun hS => ?_); clear hK K
          refine tO 5 (fun K hK => ?_)
          (refine stp_build1 hO rfl (by rfl) (xs := kx) (by rfl) Tryd.underlying47 zs_kid Tryd.sizeOf55 (by decide) (by decide) Hlen.out ?_; clear hO; intro b9 w7 hO)
          refine tK hK (cellVq hO) (fun hS => ?_); clear hK K
          refine tO 6 (fun K hK => ?_)
          (refine step_appendG hO 3 rfl rfl (by rfl) (by rfl) (by rfl) Tryd.underlying47 info_kid (by decide) (m := 1) (news := kx) (reads_pt hO 0 rfl (off := 0) (fun j u hu => by rw [Nat.zero_add, List.getElem?_toArray]; exact hu)) (by rw [Hlen.out]) Hone.out (by omega) (by omega) ?_; clear hO; intro an cn w8 hO; simp only [List.set_cons_zero, List.set_cons_succ] at hO)
          refine tK hK (cellVq hO) (fun hS => ?_); clear hK K
          refine tO 7 (fun K hK => ?_)
          (refine stp_setC hO 2 rfl rfl (by rfl) (by rfl) (by rfl) Tryd.sizeOf47 rfl rfl (by simp) ?_; clear hO; intro w9 hO; simp only [List.set_cons_zero, List.set_cons_succ] at hO)
          refine tK hK (cellVq hO) (fun hS => ?_); clear hK K
          refine wpAnyH_done (by kernel_rfl) ?_ _
        rotate_right
        focus
          (go_simp; refine (HX.out _ _ sfx (fun w h => Hpc.out w (reads_row h 3 rfl)) hO).mono ?_; clear hO; rintro e w5 ⟨v, h1, h2, hO⟩; cases h1; cases h2)
          refine tK hK (cellVq hO) (fun hS => ?_); clear hK K
          refine wpAnyH_ready (rs := [0, 5]) (by kernel_rfl) (by simp) ?_
          refine (AllReadyH.cons (o := ⟨some 27, .load 47 (.tmp 7), _, _, _, none⟩) rfl (fun K hK => ?_) (AllReadyH.cons (o := ⟨some 32, .buildSlice 47 1 #[(0, .tmp 31)], _, _, _, none⟩) rfl (fun K hK => ?_) AllReadyH.nil))
          focus
            (first | refine step_load1 hO 1 rfl rfl (by rfl) (by rfl) (by simp [go_sem]) rfl ?_ | refine step_load1 hO 2 rfl rfl (by rfl) (by rfl) (by simp [go_sem]) rfl ?_)
            refine tK hK (cellVq hO) (fun hS => ?_); clear hK K
            refine tO 5 (fun K hK => ?_)
            (refine stp_build1 hO rfl (by rfl) (xs := kx) (by rfl) Tryd.underlying47 zs_kid Tryd.sizeOf55 (by decide) (by decide) Hlen.out ?_; clear hO; intro b9 w7 hO)
            refine tK hK (cellVq hO) (fun hS => ?_); clear hK K
            refine tO 6 (fun K hK => ?_)
            (refine step_appendG hO 3 rfl rfl (by rfl) (by rfl) (by rfl) Tryd.underlying47 info_kid (by decide) (m := 1) (news := kx) (reads_pt hO 0 rfl (off := 0) (fun j u hu => by rw [Nat.zero_add, List.getElem?_toArray]; exact hu)) (by rw [Hlen.out]) Hone.out (by omega) (by omega) ?_; clear hO; intro an cn w8 hO; simp only [List.set_cons_zero, List.set_cons_succ] at hO)
            refine tK hK (cellVq hO) (fun hS => ?_); clear hK K
            refine tO 7 (fun K hK => ?_)
            (refine stp_setC hO 2 rfl rfl (by rfl) (by rfl) (by rfl) Tryd.sizeOf47 rfl rfl (by simp) ?_; clear hO; intro w9 hO; simp only [List.set_cons_zero, List.set_cons_succ] at hO)
            refine tK hK (cellVq hO) (fun hS => ?_); clear hK K
            refine wpAnyH_done (by kernel_rfl) ?_ _
          rotate_right
          focus
            (refine stp_build1 hO rfl (by rfl) (xs := kx) (by rfl) Tryd.underlying47 zs_kid Tryd.sizeOf55 (by decide) (by decide) Hlen.out ?_; clear hO; intro b9 w7 hO)
            refine tK hK (cellVq hO) (fun hS => ?_); clear hK K
            refine tO 0 (fun K hK => ?_)
            (first | refine step_load1 hO 1 rfl rfl (by rfl) (by rfl) (by simp [go_sem]) rfl ?_ | refine step_load1 hO 2 rfl rfl (by rfl) (by rfl) (by simp [go_sem]) rfl ?_)
            refine tK hK (cellVq hO) (fun hS => ?_); clear hK K
            refine tO 6 (fun K hK => ?_)
            (refine step_appendG hO 3 rfl rfl (by rfl) (by rfl) (by rfl) Tryd.underlying47 info_kid (by decide) (m := 1) (news := kx) (reads_pt hO 0 rfl (off := 0) (fun j u hu => by rw [Nat.zero_add, List.getElem?_toArray]; exact hu)) (by rw [Hlen.out]) Hone.out (by omega) (by omega) ?_; clear hO; intro an cn w8 hO; simp only [List.set_cons_zero, List.set_cons_succ] at hO)
            refine tK hK (cellVq hO) (fun hS => ?_); clear hK K
            refine tO 7 (fun K hK => ?_)
            (refine stp_setC hO 2 rfl rfl (by rfl) (by rfl) (by rfl) Tryd.sizeOf47 rfl rfl (by simp) ?_; clear hO; intro w9 hO; simp only [List.set_cons_zero, List.set_cons_succ] at hO)
            refine tK hK (cellVq hO) (fun hS => ?_); clear hK K
            refine wpAnyH_done (by kernel_rfl) ?_ _
        all_goals
          refine onlyN_n ?_
          gi_wp2
          have hF := (hO.tail.front 2 rfl).front 2 rfl
          have q1 : (ks ++ [kk]).length = ks.length + 1 := by simp
          have hG := Ent.pack (f := fun z : Option Addr × Nat => [pt b7 (.cells #[.slice z.1 (ks ++ [kk]).length z.2] 47), rowK z.1 z.2 (ks ++ [kk])]) (an, cn) (by simp only [rowK, q1, Hkx.out]; exact hF)
          show Ent (idI bx b2 b4 b5 b7 al cl cs.toArray ks0 oo0 l2 (pre ++ [_]) ++ L) _
          rw [HI.out]
          exact hG.front 1 rfl

      case done2 =>
        intro D W hW
        rw [idI, pcVs_len, ← level_len, List.take_length] at hW
        obtain ⟨_, _, f', hfil2⟩ := fil_step Hfil.out hlt
        have hll : ((level ks0).map kidOf).length < ks0.length := by rw [List.length_map, level_len]; exact pcN_lt hlt
        have HF := SL.hid hfil2
        have HL := SL.hid hll
        have Ho2 := SL.hid (show oo0 ++ (level ks0).map putC = out ++ (dn ++ level ks0).map putC by rw [Hoo0.out]; simp)
        obtain ⟨⟨a2, c2⟩, hW'⟩ := (hW.front 2 rfl).unpack
        have hE : Ent (pt b7 (.cells #[.slice a2 ((level ks0).map kidOf).length c2] 47) :: rowK a2 c2 ((level ks0).map kidOf) :: ptD D :: xOut bx (oo0 ++ (level ks0).map putC) :: pt b2 (.cells #[.pointer (some ⟨bx, 0, none⟩)] 74) :: rowK al cl ks0 :: pt b5 (.cells #[.slice al ks0.length cl] 47) :: pt b4 (.cells cs.toArray 55 (0, 0)) :: l2) W := hW'
        clear hW' hW hfil2 hll hd1 hd2
        generalize (level ks0).map kidOf = ks2 at *
        generalize oo0 ++ (level ks0).map putC = oo2 at *
        go_wp2_with (first
          | go_skip
          | ((with_reducible (show Go.wpList _ _ _ (Go.Oper.mk _ (.load _ _) _ _ _ _ :: _) _ _)); refine wpl_load1 hE 0 rfl rfl rfl rfl (by simp [go_sem]) rfl ?_)
          | ((with_reducible (show Go.wpList _ _ _ (Go.Oper.mk _ (.store _ _ _) _ _ _ _ :: _) _ _)); refine wpl_st1 hE 6 rfl rfl rfl rfl rfl Tryd.sizeOf47 rfl rfl (by simp) ?_; clear hE; intro w9 hE; simp only [List.set_cons_zero, List.set_cons_succ] at hE))
        have hm := hE.cell 6 rfl 0
        have hG := Ent.pack (f := fun z : Option Addr × Nat => [pt b5 (.cells #[.slice z.1 ks2.length z.2] 47), rowK z.1 z.2 ks2]) (a2, c2) ((hE.tail.erase 4).front 4 rfl)
        have hP : Ent (ptD D :: xOut bx oo2 :: lvI b5 ks2 :: pt b2 (.cells #[.pointer (some ⟨bx, 0, none⟩)] 74) :: pt b4 (.cells cs.toArray 55 (0, 0)) :: (lB ++ Ds.map ptD)) w9 := by
          rw [← Hl2.out]
          exact (hG.front 2 rfl).front 2 rfl
        refine ⟨⟨D :: Ds, _, _, _, f', ks2, rfl, rfl, rfl, HF.out, ?_⟩, ?_⟩
        · rw [← Ho2.out]
          exact hP.perm (List.perm_middle (a := ptD D) (l₁ := xOut bx oo2 :: lvI b5 ks2 :: pt b2 (.cells #[.pointer (some ⟨bx, 0, none⟩)] 74) :: pt b4 (.cells cs.toArray 55 (0, 0)) :: lB) (l₂ := Ds.map ptD)).symm
        · rw [Hsl.out, sliceLeft_eq hm]
          exact HL.out
    · obtain ⟨kk, rfl, hfe, hgk⟩ := fil_end hfil hlt
      have hkc : kidCells [kk] = kcells kk := by simp [kidCells]
      have hl36 := kcells_len hgk
      obtain ⟨b, off, rfl, hz⟩ := reads_form (reads_row hE 2 rfl) (by simp) (by rw [hkc, hl36]; omega)
      rw [hkc] at hz
      have Hlen := SL.hid hl36
      have Hone := SL.hid (kcells_one kk)
      have Hz := SL.hid hz
      have Hfe := SL.hid hfe
      have Hv := SL.hid (show Value.agg (kcells (fileC data).2).toArray = .agg (kcells kk).toArray by rw [hfe])
      replace hE : Ent (xOut bx (out ++ dn.map putC) :: pt b5 (.cells #[.slice (some ⟨b, off, none⟩) 1 cl] 47) :: rowK (some ⟨b, off, none⟩) cl [kk] :: pt b2 (.cells #[.pointer (some ⟨bx, 0, none⟩)] 74) :: pt b4 (.cells cs.toArray 55 (0, 0)) :: (lB ++ Ds.map ptD)) w := hE
      clear hz hkc hl36 hgk hfe hfil hlt Hfil Hsl hcl hoo
      generalize hkx : kcells kk = kx at *
      clear hkx
      go_wp2_with (first
        | go_skip
        | ((with_reducible (show Go.wpList _ _ _ (Go.Oper.mk _ (.load 55 _) _ _ _ _ :: _) _ _)); refine wpl_loadC rfl rfl rfl Tryd.isAgg55 Tryd.sizeOf55 kx Hlen.out (fun j v hv => by rw [Addr.add_lit]; exact Hz.out j v hv) ?_)
        | (refine ldX hE ?_)
        | ((with_reducible (show Go.wpList _ _ _ (Go.Oper.mk _ (.store _ _ _) _ _ _ _ :: _) _ _)); refine wpl_storeW hE 4 rfl rfl rfl (xs := kx) rfl rfl Tryd.sizeOf55 Hlen.out Hone.out (by simpa using Hq.out) ?_; clear hE; intro w9 hE; simp only [List.set_cons_zero, List.set_cons_succ] at hE))
      refine post_marks (Ds := Ds) (l := xOut bx (out ++ dn.map putC) :: pt b5 (.cells #[.slice (some ⟨b, off, none⟩) 1 cl] 47) :: rowK (some ⟨b, off, none⟩) cl [kk] :: pt b2 (.cells #[.pointer (some ⟨bx, 0, none⟩)] 74) :: pt b4 (.cells kx.toArray 55 (0, 0)) :: lB) rfl (hE.perm (List.perm_append_comm (l₁ := _ :: _ :: _ :: _ :: _ :: lB))) (fun w' hw' => ⟨_, results_cellA rfl hw' 4 rfl rfl Tryd.isAgg55 Tryd.sizeOf55 Hlen.out, _, rfl, Hv.out.symm, ?_⟩)
      have hG : Ent (xOut bx (out ++ dn.map putC) :: lB) w' := (((hw'.erase 1).erase 1).erase 1).erase 1
      refine Hlast.out _ ?_
      rw [Hfe.out]
      exact hG
end Go.Proofs.YtehfbokkcamliaaDoor
namespace Go.SL
theorem Ent.swap {a b c : List HProp} {w : World} (h : Ent (a ++ (b ++ c)) w) : Ent (b ++ (a ++ c)) w := h.perm (by rw [← List.append_assoc, ← List.append_assoc]; exact List.perm_append_comm.append_right c)
end Go.SL
namespace Go.Proofs.YtehfbokkcamliaaDoor
open Go.RowKit Go.SL

def topsC (ks : List Kid) (vs : List Value) : List Value := (List.zip ks vs).flatMap fun p => topC p.1 p.2
theorem topsC_nil : topsC [] [] = [] := rfl
theorem topsC_app {a b : List Kid} {u v : List Value} (h : u.length = a.length) : topsC (a ++ b) (u ++ v) = topsC a u ++ topsC b v := by
  rw [topsC, List.zip_append h.symm, List.flatMap_append]; rfl
theorem topsC_one (k : Kid) (v : Value) : topsC [k] [v] = topC k v := by simp [topsC]
theorem topsC_len : ∀ {ks : List Kid} {vs : List Value}, (∀ k ∈ ks, k.good) → vs.length = ks.length → (topsC ks vs).length = ks.length * 37
  | [], vs, _, _ => by simp [topsC]
  | k :: ks, [], _, h => by simp at h
  | k :: ks, v :: vs, hg, h => by
    have ih := topsC_len (ks := ks) (vs := vs) (fun x hx => hg x (List.mem_cons_of_mem _ hx)) (by simpa using h)
    have h1 := topC_len (hg k (List.mem_cons_self ..)) v
    have e : topsC (k :: ks) (v :: vs) = topC k v ++ topsC ks vs := rfl
    rw [e, List.length_append, h1, ih, List.length_cons]
    omega
theorem topsC_at : ∀ {ks : List Kid} {vs : List Value}, (∀ k ∈ ks, k.good) → vs.length = ks.length → ∀ {i : Nat} (hi : i < ks.length) (hv : i < vs.length) (j : Nat) (u : Value), (topC ks[i] vs[i])[j]? = some u → (topsC ks vs)[i * 37 + j]? = some u
  | [], _, _, _, i, hi, _, _, _, _ => absurd hi (by simp)
  | k :: ks, [], _, h, _, _, _, _, _, _ => by simp at h
  | k :: ks, v :: vs, hg, h, i, hi, hv, j, u, hu => by
    have h1 := topC_len (hg k (List.mem_cons_self ..)) v
    have e : topsC (k :: ks) (v :: vs) = topC k v ++ topsC ks vs := rfl
    rw [e]
    cases i with
    | zero =>
      have hj : j < (topC k v).length := (List.getElem?_eq_some_iff.1 hu).1
      rw [Nat.zero_mul, Nat.zero_add, List.getElem?_append_left hj]
      exact hu
    | succ i =>
      rw [List.getElem?_append_right (by omega), show (i + 1) * 37 + j - (topC k v).length = i * 37 + j by omega]
      exact topsC_at (fun x hx => hg x (List.mem_cons_of_mem _ hx)) (by simpa using h) (by simpa using hi) (by simpa using hv) j u hu
abbrev rowP (ao : Option Addr) (c : Nat) (ks : List Kid) (vs : List Value) : HProp := row 80 37 (.slice ao ks.length c) ks.length (topsC ks vs)
theorem info_top : elemInfo Tryd.prog 80 = some (some 37, 37, 80) := by kernel_rfl
theorem zs_top : zeroSize Tryd.prog 80 = some 37 := by kernel_rfl
def txB (c : Chunk) : Value := .string ⟨(putC c).toArray⟩
/-- each top's chunks: its own alone -/
def OwnL (l : List HProp) (vs : List Value) (cs : List Chunk) : Prop := vs.length = cs.length ∧ ∀ (i : Nat) (hi : i < cs.length) (hv : i < vs.length), (∃ b, vs[i] = .slice (some ⟨b, 0, none⟩) 1 1) ∧ Knows l (reads vs[i] 1 [txB cs[i]])
theorem OwnL.nil (l : List HProp) : OwnL l [] [] := ⟨rfl, fun i hi => absurd hi (by simp)⟩
theorem OwnL.snoc {l m : List HProp} {vs : List Value} {cs : List Chunk} (h : OwnL l vs cs) (hm : ∀ p : World → Prop, Knows l p → Knows m p) {v : Value} {c : Chunk} (hv : ∃ b, v = .slice (some ⟨b, 0, none⟩) 1 1) (hk : Knows m (reads v 1 [txB c])) : OwnL m (vs ++ [v]) (cs ++ [c]) := by
  refine ⟨by simp [h.1], fun i hi hv' => ?_⟩
  rw [List.length_append, List.length_singleton] at hi
  by_cases hlt : i < cs.length
  · have := h.2 i hlt (by rw [h.1]; exact hlt)
    rw [List.getElem_append_left (by rw [h.1]; exact hlt), List.getElem_append_left hlt]
    exact ⟨this.1, hm _ this.2⟩
  · obtain rfl : i = cs.length := by omega
    rw [List.getElem_append_right (by rw [h.1]; exact Nat.le_refl _), List.getElem_append_right (Nat.le_refl _)]
    simp only [h.1, Nat.sub_self, List.getElem_cons_zero]
    exact ⟨hv, hk⟩
theorem pcN_at {n k : Nat} : (k = 0 ∨ 240 * k < n) ↔ k < pcN 240 n := by unfold pcN; omega
/-- behind so many blobs -/
def RbRel (data : List UInt8) (l : List HProp) (lv at_ : Value) (wr : World) : Prop :=
  ∃ (k : Nat) (m : List HProp) (vs : List Value) (ao : Option Addr) (c : Nat), k ≤ pcN 240 data.length ∧ at_ = .int .i64 (240 * k : Nat) ∧ lv = .slice ao k c ∧ OwnL (m ++ l) vs ((blobs data).take k) ∧
    Ent (rowP ao c (((blobs data).take k).map kidOf) vs :: (m ++ l)) wr
def RlRel (bl : List Chunk) (L : List HProp) (s i : Value) (wr : World) : Prop := ∃ (k : Nat) (an : Option Addr) (cn : Nat), k ≤ bl.length ∧ i = .int .i64 k ∧ s = .slice an k cn ∧ Ent (row 9 1 (.slice an k cn) k ((bl.take k).map txB) :: L) wr
def RoRel (data : List UInt8) (L : List HProp) (lv s : Value) (wr : World) : Prop := ∃ (dn : List Chunk) (f : Nat) (ks : List Kid) (vs : List Value) (ao : Option Addr) (c : Nat) (an : Option Addr) (cn : Nat),
  Fil data dn f ks ∧ vs.length = ks.length ∧ lv = .slice ao ks.length c ∧ s = .slice an dn.length cn ∧ Ent (row 9 1 (.slice an dn.length cn) dn.length (dn.map txB) :: rowP ao c ks vs :: L) wr
def RmRel (ks : List Kid) (dn : List Chunk) (L : List HProp) (s nx i : Value) (wr : World) : Prop := ∃ (j : Nat) (an : Option Addr) (cn : Nat) (a9 : Option Addr) (c9 : Nat) (vs9 : List Value),
  j ≤ pcN 6 ks.length ∧ i = .int .i64 (6 * j : Nat) ∧ nx = .slice a9 j c9 ∧ s = .slice an (dn.length + j) cn ∧ vs9.length = j ∧
  Ent (row 9 1 (.slice an (dn.length + j) cn) (dn.length + j) ((dn ++ (level ks).take j).map txB) :: row 80 37 (.slice a9 j c9) j (topsC (((level ks).take j).map kidOf) vs9) :: L) wr
def RcRel (ks : List Kid) (j6 b11 : Nat) (L : List HProp) (i : Value) (wr : World) : Prop := ∃ (q : Nat) (a : Option Addr) (c : Nat), q ≤ 6 ∧ j6 + q ≤ ks.length ∧ i = .int .i64 (j6 + q : Nat) ∧
  Ent (pt b11 (.cells #[.int .u8 2, .string ⟨#[]⟩, .slice a q c] 120) :: row 78 36 (.slice a q c) q (kidCells ((ks.drop j6).take q)) :: L) wr
def toGo6 (ks : List Kid) : Value → Nat
  | .int _ n => pcN 6 ks.length * 6 - n.toNat
  | _ => 0
theorem rd_mem {e : TypeId} {size : Nat} {v : Value} {n : Nat} {xs : List Value} {l : List HProp} {w : World} (hE : Ent l w) (hm : row e size v n xs ∈ l) : reads v n xs w := by
  obtain ⟨i, hi, h⟩ := List.getElem_of_mem hm
  exact reads_row hE i (by rw [List.getElem?_eq_getElem hi, h])
theorem info_rkid : elemInfo Tryd.prog 78 = some (some 36, 36, 56) := by kernel_rfl
theorem zs_rkid : zeroSize Tryd.prog 78 = some 36 := by kernel_rfl
theorem pc6_at {n j : Nat} (h : 0 < n) : 6 * j < n ↔ j < pcN 6 n := by unfold pcN; omega
/-- a level's kid, loaded -/
theorem top_kid {ks : List Kid} {vs : List Value} (hg : ∀ k ∈ ks, k.good) (hv : vs.length = ks.length) {bt ot c : Nat} {w : World} (hr : reads (.slice (some ⟨bt, ot, none⟩) ks.length c) ks.length (topsC ks vs) w) {t : Nat} (ht : t < ks.length) :
    (Instr.loadAt 78 (.pointer (some ⟨bt, ot + t * 37, none⟩))).run Tryd.prog w = .ok (.agg (kcells ks[t]).toArray) w := by
  obtain ⟨b', o', e, hz⟩ := reads_form hr (by omega) (by rw [topsC_len hg hv]; omega)
  cases e
  refine atCells Tryd.isAgg78 Tryd.sizeOf78 (kcells ks[t]) (kcells_len (hg _ (List.getElem_mem ht))) (fun j v hj => ?_)
  rw [Addr.add_lit, Nat.add_assoc]
  refine hz _ _ (topsC_at hg hv ht (by omega) j v ?_)
  rw [topC, List.getElem?_append_left (List.getElem?_eq_some_iff.1 hj).1]
  exact hj
/-- what is still to be counted -/
def toGo (data : List UInt8) : Value → Nat
  | .int _ n => pcN 240 data.length * 240 - n.toNat
  | _ => 0

set_option maxRecDepth 100000 in
set_option maxHeartbeats 8000000 in
attribute [-go_sem] Instr.loadAt in
theorem File_any {data : List UInt8} (hd : data.length ≤ 50000) {l : List HProp} {w : World} (hE : Ent l w) :
    Calls Tryd.prog 56 #[tabV (tabH hFirst), .string ⟨data.toArray⟩] w
      (Ret fun v w' => ∃ ao c, v = .agg (topC (fileC data).2 (.slice ao ((fileC data).1.map putC).length c)).toArray ∧ Ent (rowT ao c ((fileC data).1.map putC) :: l) w') := by
  have Htl := SL.hid (show ((tabH hFirst).map u32v).length = 72 from rfl)
  have hex : ∃ tl, tl = (tabH hFirst).map u32v := ⟨_, rfl⟩
  obtain ⟨tl, htl⟩ := hex
  have HO := SL.hid (show ∀ (u : UInt8) (dt : List UInt8) (ks : List Kid) (ao : Option Addr) (c : Nat), (∀ k ∈ ks, k.good) → mayC ⟨u, dt, ks⟩ = true → csize ⟨u, dt, ks⟩ < 4294967296 → ∀ (l : List HProp) (w : World), Knows l (reads (.slice ao ks.length c) ks.length (kidCells ks)) → Ent l w →
    Calls Tryd.prog 57 #[.agg tl.toArray, .agg #[.int .u8 u.toNat, .string ⟨dt.toArray⟩, .slice ao ks.length c]] w
      (Ret fun v w' => ∃ b, v = .agg (topC (kidOf ⟨u, dt, ks⟩) (.slice (some ⟨b, 0, none⟩) 1 1)).toArray ∧ Ent (pt b (.cells #[txB ⟨u, dt, ks⟩] 9) :: l) w') from by
    intro u dt ks ao c h1 h2 h3 l w hk hE
    rw [htl]
    exact one_any h1 h2 h3 hE hk)
  show Calls Tryd.prog 56 #[.agg ((tabH hFirst).map u32v).toArray, _] w _
  rw [← htl] at Htl ⊢
  clear htl
  go_enter Tryd.func56, Tryd.ntmps56
  go_wp2_with (first
    | go_skip
    | ((with_reducible (show Go.wpList _ _ _ (Go.Oper.mk _ (.box 85 _) _ _ _ _ :: _) _ _)); refine wpl_box hE rfl rfl (v := .agg tl.toArray) rfl ?_; clear hE; intro b2 w hE; simp only [Value.cells] at hE)
    | ((with_reducible (show Go.wpList _ _ _ (Go.Oper.mk _ (.alloc 80) _ _ _ _ :: _) _ _)); refine wpl_allocN hE rfl rfl (n := 37) (by kernel_rfl) ?_; clear hE; intro b4 cs w1 hq hE))
  have Hq := SL.hid (show cs.toArray.size = 37 by simpa using hq)
  clear hq
  obtain ⟨l2, hl2⟩ : ∃ l2, l2 = pt b4 (.cells cs.toArray 80 (0, 0)) :: pt b2 (.cells tl.toArray 85 (0, 0)) :: l := ⟨_, rfl⟩
  rw [← hl2] at hE
  have Hl2 := SL.hid hl2
  have HT := SL.hid (show ∀ (L : List HProp) (w : World), l2 <:+ L → Ent L w → (Instr.loadAt 85 (.pointer (some ⟨b2, 0, none⟩))).run Tryd.prog w = .ok (.agg tl.toArray) w from by
    intro L w h hL
    obtain ⟨m, rfl⟩ := h
    rw [hl2] at hL
    exact atWm hL (List.mem_append_right _ (List.Mem.tail _ (List.Mem.head _))) Tryd.isAgg85 Tryd.sizeOf85 Htl.out)
  clear hl2
  go_loopw [5, 6] (fun lv at_ wr => RbRel data l2 lv at_ wr) (fun _ at_ _ => toGo data at_)
  case atStart => exact ⟨0, [], [], none, 0, Nat.zero_le _, rfl, rfl, OwnL.nil _, hE.nil _ 37⟩
  case round =>
    clear hE
    obtain ⟨k, m, vs, ao, c, hkn, rfl, rfl, how, hE⟩ := hrel
    by_cases hlt : k < pcN 240 data.length
    · have hm : mayC ⟨1, pcAt 240 data k, []⟩ = true := may_blob (pcAt_len 240 data k)
      have hgd : (Chunk.mk 1 (pcAt 240 data k) []).good := fun k hk => absurd hk (List.not_mem_nil)
      have hsz : csize ⟨1, pcAt 240 data k, []⟩ < 4294967296 := by
        have := pcAt_len 240 data k
        have e : csize ⟨1, pcAt 240 data k, []⟩ = (pcAt 240 data k).length := by simp [csize]
        rw [e]; omega
      have hkid := kidOf_good hsz
      have hst := blobs_take hlt
      have hcond := pcN_at.2 hlt
      obtain ⟨mn, hmn⟩ : ∃ mn, mn = min (240 * k + 240) data.length := ⟨_, rfl⟩
      have hin := pc_in (m := 240) (by omega) hlt
      have hp : ((data.drop (240 * k)).take (mn - 240 * k)) = pcAt 240 data k := by
        rw [pcAt, List.take_eq_take_iff, List.length_drop]
        omega
      have hs1 : ∀ w, (Instr.sliceAt 9 (.string ⟨data.toArray⟩) (some (.int .i64 ((240 * k : Nat) : Int))) (some (.int .i64 (mn : Int))) none).run Tryd.prog w = .ok (.string ⟨(pcAt 240 data k).toArray⟩) w := fun w => by
        have h := run_slice_s (P := Tryd.prog) Tryd.underlying9 (bs := data) (a := 240 * k) (k := mn) (by omega) (by omega) w
        rw [hp] at h
        exact h
      have hN : pcN 240 data.length ≤ 240 := by unfold pcN; omega
      have hkl : (((blobs data).take k).map kidOf).length = k := by rw [List.length_map, List.length_take, blobs_len]; omega
      have HX := SL.hid (fun (L : List HProp) (w : World) (hE : Ent L w) => show Calls Tryd.prog 57 #[.agg tl.toArray, .agg #[.int .u8 1, .string ⟨(pcAt 240 data k).toArray⟩, .slice none 0 0]] w
          (Ret fun v w' => ∃ b, v = .agg (kcells (kidOf ⟨1, pcAt 240 data k, []⟩) ++ [Value.slice (some ⟨b, 0, none⟩) 1 1]).toArray ∧ Ent (pt b (.cells #[txB ⟨1, pcAt 240 data k, []⟩] 9) :: L) w') from
        HO.out 1 (pcAt 240 data k) [] none 0 hgd hm hsz L w (fun w _ => reads_nil 0 0 rfl _) hE)
      have Hlen := SL.hid (show ∀ v, (kcells (kidOf ⟨1, pcAt 240 data k, []⟩) ++ [v]).length = 37 from fun v => topC_len hkid v)
      have Hone := SL.hid (show ∀ (a : Option Addr) (n c : Nat), ∀ y ∈ kcells (kidOf ⟨1, pcAt 240 data k, []⟩) ++ [Value.slice a n c], y.oneCell' = true from fun a n c => topC_one _ rfl)
      have Htop := SL.hid (show ∀ v, topsC (((blobs data).take k).map kidOf ++ [kidOf ⟨1, pcAt 240 data k, []⟩]) (vs ++ [v]) = topsC (((blobs data).take k).map kidOf) vs ++ (kcells (kidOf ⟨1, pcAt 240 data k, []⟩) ++ [v]) from fun v => by
        rw [topsC_app (by rw [hkl, how.1, List.length_take, blobs_len]; omega), topsC_one]; rfl)
      have Hst := SL.hid (show ((blobs data).take (k + 1)).map kidOf = ((blobs data).take k).map kidOf ++ [kidOf ⟨1, pcAt 240 data k, []⟩] by rw [hst]; simp)
      have How := SL.hid (show ∀ (mm : List HProp) (v : Value), (∀ p : World → Prop, Knows (m ++ l2) p → Knows (mm ++ l2) p) → (∃ b, v = .slice (some ⟨b, 0, none⟩) 1 1) → Knows (mm ++ l2) (reads v 1 [txB ⟨1, pcAt 240 data k, []⟩]) → OwnL (mm ++ l2) (vs ++ [v]) ((blobs data).take (k + 1)) from fun mm v h1 h2 h3 => by
        rw [hst]; exact how.snoc h1 h2 h3)
      replace hE : Ent (row 80 37 (.slice ao k c) k (topsC (((blobs data).take k).map kidOf) vs) :: (m ++ l2)) wr := by rw [rowP, hkl] at hE; exact hE
      have Hkl := SL.hid (show (((blobs data).take k).map kidOf ++ [kidOf ⟨1, pcAt 240 data k, []⟩]).length = k + 1 by rw [List.length_append, hkl]; rfl)
      have w1 : wrap64 (((240 * k : Nat) : Int) + 240) = ((240 * k : Nat) : Int) + 240 := by unfold wrap64; omega
      have w1b : IntKind.i64.wrap (((240 * k : Nat) : Int) + 240) = ((240 * k : Nat) : Int) + 240 := wrap_id (by omega)
      have w2 : min (((240 * k : Nat) : Int) + 240) (data.length : Int) = (mn : Int) := by omega
      have hz : (((240 * k : Nat) : Int) == 0) = decide (k = 0) := by
        rw [Bool.eq_iff_iff, beq_iff_eq, decide_eq_true_iff]; omega
      have hz2 : decide (((240 * k : Nat) : Int) < (data.length : Int)) = decide (240 * k < data.length) := by
        rw [Bool.eq_iff_iff, decide_eq_true_iff, decide_eq_true_iff]; omega
      have Hat := SL.hid (show 240 * (k + 1) = 240 * k + 240 by omega)
      have hkN : k ≤ 240 := by omega
      clear hm hgd hsz hkid hst hp hmn hin hkl how
      generalize pcAt 240 data k = p at *
      generalize ((blobs data).take k).map kidOf = ks at *
      generalize hkk : kidOf ⟨1, p, []⟩ = kk at *
      clear hkk
      generalize kcells kk = kx at *
      generalize txB ⟨1, p, []⟩ = tb at *
      generalize hat0 : 240 * k = at0 at *
      have Hat0 := SL.hid hat0
      clear hat0
      by_cases hk0 : k = 0
      · have hz0 : ((at0 : Int) == 0) = true := by rw [hz]; exact decide_eq_true hk0
        clear hz hz2 hk0 hcond
        have hO := hE.drew
        go_wp2
        refine wp_region_held_drew (S := (fun w' => ((Instr.loadAt 85 (.pointer (some ⟨b2, 0, none⟩))).run Tryd.prog w' = .ok (.agg tl.toArray) w'))) (by kernel_rfl) (HT.out _ _ sfx hO) (fun hS => ?_)
        refine tV 0 hS ?_; refine tL 1 hS ?_; refine tV 2 hS ?_; refine tV 3 hS ?_; refine tV 4 hS ?_; refine tV 5 hS ?_; refine tV 6 hS ?_; refine tV 7 hS ?_; refine tV 8 hS ?_; refine tV 9 hS ?_; refine tV 10 hS ?_
        refine tO 11 (fun K hK => ?_)
        (go_simp; refine (HX.out _ _ hO).mono ?_; clear hO; rintro e w5 ⟨v, h1, b, h2, hO⟩; cases h1; cases h2)
        refine tK hK (HT.out _ _ sfx hO) (fun hS => ?_); clear hK K
        refine tO 12 (fun K hK => ?_)
        (refine stp_build1 hO rfl (by rfl) (xs := kx ++ [Value.slice (some ⟨b, 0, none⟩) 1 1]) (by rfl) Tryd.underlying158 zs_top Tryd.sizeOf80 (by decide) (by decide) (Hlen.out _) ?_; clear hO; intro b9 w7 hO)
        refine tK hK (HT.out _ _ sfx hO) (fun hS => ?_); clear hK K
        refine tO 13 (fun K hK => ?_)
        (refine step_appendG hO 2 rfl rfl (by rfl) (by rfl) (by rfl) Tryd.underlying158 info_top (by decide) (m := 1) (news := kx ++ [Value.slice (some ⟨b, 0, none⟩) 1 1]) (reads_pt hO 0 rfl (off := 0) (fun j u hu => by rw [Nat.zero_add, List.getElem?_toArray]; exact hu)) (by rw [Hlen.out]) (Hone.out _ _ _) (by omega) (by omega) ?_; clear hO; intro an cn w8 hO; simp only [List.set_cons_zero, List.set_cons_succ] at hO)
        refine tK hK (HT.out _ _ sfx hO) (fun hS => ?_); clear hK K
        refine tV 14 hS ?_
        refine wpAnyH_done (by kernel_rfl) ?_ _
        all_goals
          clear hS hE
          have hE := hO.tail.front 1 rfl
          clear hO
          go_wp2
          go_roundw
          case rel =>
            refine ⟨k + 1, pt b (.cells #[tb] 9) :: m, vs ++ [Value.slice (some ⟨b, 0, none⟩) 1 1], an, cn, hlt, by rw [Hat.out]; simp, rfl, How.out (pt b (.cells #[tb] 9) :: m) _ (fun p hp => hp.cons) ⟨b, rfl⟩ (fun w h => reads_pt h 0 rfl (off := 0) (fun j u hu => by rw [Nat.zero_add, List.getElem?_toArray]; exact hu)), ?_⟩
            rw [Hst.out]
            simp only [rowP, Hkl.out, Htop.out]
            exact hE
          case measure =>
            have := Hat0.out
            show pcN 240 data.length * 240 - (((at0 + 240 : Nat) : Int)).toNat < pcN 240 data.length * 240 - ((at0 : Nat) : Int).toNat
            omega
      · have hz0 : ((at0 : Int) == 0) = false := by rw [hz]; exact decide_eq_false hk0
        have hz1 : decide ((at0 : Int) < (data.length : Int)) = true := by
          rw [hz2]
          exact decide_eq_true (hcond.resolve_left hk0)
        have hz1n : decide (at0 < data.length) = true := decide_eq_true (hcond.resolve_left hk0)
        clear hz hz2 hk0 hcond
        have hO := hE.drew
        go_wp2
        refine wp_region_held_drew (S := (fun w' => ((Instr.loadAt 85 (.pointer (some ⟨b2, 0, none⟩))).run Tryd.prog w' = .ok (.agg tl.toArray) w'))) (by kernel_rfl) (HT.out _ _ sfx hO) (fun hS => ?_)
        refine tV 0 hS ?_; refine tL 1 hS ?_; refine tV 2 hS ?_; refine tV 3 hS ?_; refine tV 4 hS ?_; refine tV 5 hS ?_; refine tV 6 hS ?_; refine tV 7 hS ?_; refine tV 8 hS ?_; refine tV 9 hS ?_; refine tV 10 hS ?_
        refine tO 11 (fun K hK => ?_)
        (go_simp; refine (HX.out _ _ hO).mono ?_; clear hO; rintro e w5 ⟨v, h1, b, h2, hO⟩; cases h1; cases h2)
        refine tK hK (HT.out _ _ sfx hO) (fun hS => ?_); clear hK K
        refine tO 12 (fun K hK => ?_)
        (refine stp_build1 hO rfl (by rfl) (xs := kx ++ [Value.slice (some ⟨b, 0, none⟩) 1 1]) (by rfl) Tryd.underlying158 zs_top Tryd.sizeOf80 (by decide) (by decide) (Hlen.out _) ?_; clear hO; intro b9 w7 hO)
        refine tK hK (HT.out _ _ sfx hO) (fun hS => ?_); clear hK K
        refine tO 13 (fun K hK => ?_)
        (refine step_appendG hO 2 rfl rfl (by rfl) (by rfl) (by rfl) Tryd.underlying158 info_top (by decide) (m := 1) (news := kx ++ [Value.slice (some ⟨b, 0, none⟩) 1 1]) (reads_pt hO 0 rfl (off := 0) (fun j u hu => by rw [Nat.zero_add, List.getElem?_toArray]; exact hu)) (by rw [Hlen.out]) (Hone.out _ _ _) (by omega) (by omega) ?_; clear hO; intro an cn w8 hO; simp only [List.set_cons_zero, List.set_cons_succ] at hO)
        refine tK hK (HT.out _ _ sfx hO) (fun hS => ?_); clear hK K
        refine tV 14 hS ?_
        refine wpAnyH_done (by kernel_rfl) ?_ _
        all_goals
          clear hS hE
          have hE := hO.tail.front 1 rfl
          clear hO
          go_wp2
          go_roundw
          case rel =>
            refine ⟨k + 1, pt b (.cells #[tb] 9) :: m, vs ++ [Value.slice (some ⟨b, 0, none⟩) 1 1], an, cn, hlt, by rw [Hat.out]; simp, rfl, How.out (pt b (.cells #[tb] 9) :: m) _ (fun p hp => hp.cons) ⟨b, rfl⟩ (fun w h => reads_pt h 0 rfl (off := 0) (fun j u hu => by rw [Nat.zero_add, List.getElem?_toArray]; exact hu)), ?_⟩
            rw [Hst.out]
            simp only [rowP, Hkl.out, Htop.out]
            exact hE
          case measure =>
            have := Hat0.out
            show pcN 240 data.length * 240 - (((at0 + 240 : Nat) : Int)).toNat < pcN 240 data.length * 240 - ((at0 : Nat) : Int).toNat
            omega
    · obtain rfl : k = pcN 240 data.length := by omega
      have hfil0 := fil_start hd
      have hb250 : (blobs data).length ≤ 250 := by rw [blobs_len]; unfold pcN; omega
      have hNe : pcN 240 data.length = (blobs data).length := (blobs_len data).symm
      have hN1 := pcN_pos 240 data.length
      have hno := fun h => hlt (pcN_at.1 (.inr h))
      rw [hNe] at hE how hno hN1
      rw [hNe]
      rw [List.take_length] at hE how
      have hgk : ∀ k ∈ (blobs data).map kidOf, k.good := fil_good hfil0
      have Hfil0 := SL.hid hfil0
      clear hfil0 hlt hkn hNe
      have hz0 : (((240 * (blobs data).length : Nat) : Int) == 0) = false := by rw [beq_eq_false_iff_ne]; omega
      have hz1 : decide (240 * (blobs data).length < data.length) = false := decide_eq_false hno
      generalize 240 * (blobs data).length = at0 at *
      clear hno hN1
      have Hgk := SL.hid hgk
      have Hb := SL.hid hb250
      clear hgk
      obtain ⟨bl, hbl⟩ : ∃ bl, bl = blobs data := ⟨_, rfl⟩
      rw [← hbl] at hE how Hfil0 Hgk Hb hb250
      rw [← hbl]
      clear hbl
      go_wp2
      clear hz0 hz1
      go_loopw [7, 8] (fun s i wr => RlRel bl (rowP ao c (bl.map kidOf) vs :: (m ++ l2)) s i wr) (fun _ i _ => bl.length - (intOf i).toNat)
      case atStart => exact ⟨0, none, 0, Nat.zero_le _, rfl, rfl, hE.nil _ 1⟩
      case round =>
        clear hE
        obtain ⟨i, an, cn, hin, rfl, rfl, hE⟩ := hrel
        by_cases hli : i < bl.length
        · have hvl : vs.length = (bl.map kidOf).length := by rw [how.1, List.length_map]
          obtain ⟨bt, ot, rfl, hz⟩ := reads_form (reads_row hE 1 rfl) (by rw [List.length_map]; omega) (by rw [topsC_len Hgk.out hvl, List.length_map]; omega)
          obtain ⟨⟨b, hvb⟩, hkn⟩ := how.2 i hli (by rw [how.1]; exact hli)
          have hcell : wr.cell? ⟨bt, ot + i * 37 + 36, none⟩ = some (.slice (some ⟨b, 0, none⟩) 1 1) := by
            rw [← hvb, Nat.add_assoc]
            refine hz _ _ (topsC_at Hgk.out hvl (i := i) (by rw [List.length_map]; exact hli) (by rw [how.1]; exact hli) 36 _ ?_)
            have h36 := kcells_len (Hgk.out _ (List.getElem_mem (show i < (bl.map kidOf).length by rw [List.length_map]; exact hli)))
            rw [topC, List.getElem?_append_right (by omega), h36]
            rfl
          have hld := atCell (P := Tryd.prog) hcell (t := 22) (by simp [go_sem])
          have htk : (bl.take (i + 1)).map txB = (bl.take i).map txB ++ [txB bl[i]] := by rw [List.take_succ_eq_append_getElem hli, List.map_append]; rfl
          rw [hvb] at hkn
          have Htk := SL.hid htk
          have htb := SL.hid (show ∀ u ∈ [txB bl[i]], u.oneCell' = true by simp [txB, Value.oneCell'])
          have Hkn := SL.hid hkn
          have hmll : (bl.map kidOf).length = bl.length := List.length_map ..
          have Hmll := SL.hid hmll
          clear hz hvb hkn htk hmll
          generalize txB bl[i] = tb at *
          have hi250 : i ≤ 250 := by omega
          go_wp2_with (first
            | go_skip
            | ((with_reducible (show Go.wpList _ _ _ (Go.Oper.mk _ (.call { callee := .builtin .append, args := _, argTypes := _ }) _ _ _ _ :: _) _ _)); refine wpl_appendG hE 0 rfl rfl rfl rfl rfl Tryd.underlying22 info_text (by decide) (m := 1) (news := [tb]) (Hkn.out _ hE.tail.tail) rfl (htb.out) (by omega) (by omega) ?_; clear hE; intro an' cn' w6 hE; simp only [List.set_cons_zero] at hE))
          go_roundw
          case rel =>
            refine ⟨i + 1, an', cn', hli, by first | rfl | simp, rfl, ?_⟩
            rw [Htk.out]
            exact hE
          case measure => simp [intOf] <;> omega
        · obtain rfl : i = bl.length := by omega
          rw [List.take_length] at hE
          have hvl : vs.length = (bl.map kidOf).length := by rw [how.1, List.length_map]
          replace hE : Ent (row 9 1 (.slice an bl.length cn) bl.length (bl.map txB) :: rowP ao c (bl.map kidOf) vs :: l2) wr := (Ent.swap (a := [row 9 1 (.slice an bl.length cn) bl.length (bl.map txB), rowP ao c (bl.map kidOf) vs]) (b := m) hE).drop
          have Hvl := SL.hid hvl
          clear how hvl hli hin hb250
          go_wp2
          go_loopw [5, 7] (fun lv s wr => RoRel data l2 lv s wr) (fun lv _ _ => lenV lv)
          case atStart => exact ⟨bl, bl.length, bl.map kidOf, vs, ao, c, an, cn, Hfil0.out, Hvl.out, by rw [List.length_map], rfl, hE⟩
          case round =>
            clear hE Hvl Hgk Hb Hfil0
            obtain ⟨dn, f, ks, vs, ao, c, an, cn, hfil, hvl, rfl, rfl, hE⟩ := hrel
            have hgk := fil_good hfil
            have hl250 := fil_len hfil
            have hdn : dn.length ≤ 70000 := by
              have := hfil.2.2.2.2.1
              omega
            have Hgk := SL.hid hgk
            have Hvl := SL.hid hvl
            have Hfil := SL.hid hfil
            clear hgk hvl
            by_cases hlt : 1 < ks.length
            · have hd1 : decide (1 < ks.length) = true := decide_eq_true hlt
              have hd2 : decide ((1 : Int) < (ks.length : Int)) = true := decide_eq_true (by omega)
              have Hlv := SL.hid (fil_step hfil hlt)
              clear hfil
              go_wp2
              clear hd1 hd2
              go_loopw [7, 9, 10] (fun s nx i wr => RmRel ks dn (rowP ao c ks vs :: l2) s nx i wr) (fun _ _ i _ => toGo6 ks i)
              case atStart => exact ⟨0, an, cn, none, 0, [], Nat.zero_le _, rfl, rfl, rfl, rfl, by
                have h := (hE.nil 80 37).front 1 rfl
                have e : (dn ++ (level ks).take 0).map txB = dn.map txB := by simp
                rw [e]
                exact h⟩
              case round =>
                clear hE
                obtain ⟨j, an, cn, a9, c9, vs9, hjn, rfl, rfl, rfl, hv9, hE⟩ := hrel
                have hN6 : pcN 6 ks.length ≤ 250 := by have := pcN_lt hlt; omega
                by_cases hlj : j < pcN 6 ks.length
                · have h6n := (pc6_at (n := ks.length) (j := j) (by omega)).2 hlj
                  have hda : decide (6 * j < ks.length) = true := decide_eq_true h6n
                  have hpc := level_take hlj
                  have Hpc := SL.hid hpc
                  have hpp : pcAt 6 ks j = (ks.drop (6 * j)).take 6 := rfl
                  have Hpp := SL.hid hpp
                  clear hpc hpp
                  generalize h66 : 6 * j = j6 at *
                  have H66 := SL.hid h66
                  clear h66
                  have hj6 : j6 ≤ 250 := by omega
                  go_wp2_with (first
                    | go_skip
                    | ((with_reducible (show Go.wpList _ _ _ (Go.Oper.mk _ (.alloc 120) _ _ _ _ :: _) _ _)); refine wpl_alloc hE rfl rfl (by simp [go_sem]; rfl) ?_; clear hE; intro b11 w hE; simp only [Act.eval, Act.put, List.setIfInBounds_toArray, List.set_cons_zero, List.set_cons_succ, getD_lit, List.getD_cons_succ, List.getD_cons_zero, Value.cells] at hE)
                    | (refine swX (t := 120) hE [.int .u8 2, .string ⟨#[]⟩, .slice none 0 0] Tryd.sizeOf120 ?_; clear hE; intro w hE))
                  clear hda
                  go_loopw [12] (fun i wr => RcRel ks j6 b11 (row 9 1 (.slice an (dn.length + j) cn) (dn.length + j) ((dn ++ (level ks).take j).map txB) :: row 80 37 (.slice a9 j c9) j (topsC (((level ks).take j).map kidOf) vs9) :: rowP ao c ks vs :: l2) i wr) (fun i _ => j6 + 6 - (intOf i).toNat)
                  case atStart => exact ⟨0, none, 0, Nat.zero_le _, by omega, rfl, (hE.nil 78 36).front 1 rfl⟩
                  case round =>
                    clear hE
                    obtain ⟨q, a, cq, hq6, hqn, rfl, hE⟩ := hrel
                    have w0 : wrap64 ((j6 : Int) + 6) = (j6 : Int) + 6 := by unfold wrap64; omega
                    generalize ht : j6 + q = t at *
                    have Ht := SL.hid ht
                    by_cases hq : q < 6 ∧ t < ks.length
                    · obtain ⟨hq1, hq2⟩ := hq
                      have c1 : decide (t < j6 + 6) = true := decide_eq_true (by omega)
                      have c1i : decide ((t : Int) < (j6 : Int) + 6) = true := decide_eq_true (by omega)
                      have c2 : decide (t < ks.length) = true := decide_eq_true hq2
                      obtain ⟨bt, ot, rfl, _⟩ := reads_form (reads_row hE 4 rfl) (by omega) (by rw [topsC_len Hgk.out Hvl.out]; omega)
                      have HLK := SL.hid (fun (W : World) (hr : reads (.slice (some ⟨bt, ot, none⟩) ks.length c) ks.length (topsC ks vs) W) => top_kid Hgk.out Hvl.out hr hq2)
                      have hgx := Hgk.out _ (List.getElem_mem hq2)
                      have Hlx := SL.hid (kcells_len hgx)
                      have Hox := SL.hid (kcells_one ks[t])
                      have htk : kidCells ((ks.drop j6).take (q + 1)) = kidCells ((ks.drop j6).take q) ++ kcells ks[t] := by
                        have hlt2 : q < (ks.drop j6).length := by rw [List.length_drop]; omega
                        rw [List.take_succ_eq_append_getElem hlt2, kidCells_app, List.getElem_drop]
                        simp only [ht]
                        simp [kidCells]
                      have Htk := SL.hid htk
                      clear htk hgx ht
                      generalize kcells ks[t] = kx at *
                      have hO := hE.drew
                      go_wp2
                      refine wp_region_held_drew (S := (fun w' => ((Instr.loadAt 78 (.pointer (some ⟨bt, ot + t * 37, none⟩))).run Tryd.prog w' = .ok (.agg kx.toArray) w'))) (by kernel_rfl) (HLK.out _ (rd_mem hO (by repeat (first | exact List.Mem.head _ | refine List.Mem.tail _ ?_)))) (fun hS => ?_)
                      refine tV 0 hS ?_; refine tV 2 hS ?_; refine tV 3 hS ?_; refine tV 4 hS ?_; refine tV 5 hS ?_; refine tL 6 hS ?_
                      refine wpAnyH_ready (rs := [1, 7]) (by kernel_rfl) (by simp) ?_
                      refine (AllReadyH.cons (o := ⟨some 75, .load 118 (.tmp 74), _, _, _, none⟩) rfl (fun K hK => ?_) (AllReadyH.cons (o := ⟨some 81, .buildSlice 118 1 #[(0, .tmp 80)], _, _, _, none⟩) rfl (fun K hK => ?_) AllReadyH.nil))
                      focus
                        (first | refine step_load1 hO 0 rfl rfl (by rfl) (by rfl) (by simp [go_sem]) rfl ?_ | refine step_load1 hO 1 rfl rfl (by rfl) (by rfl) (by simp [go_sem]) rfl ?_)
                        refine tK hK (HLK.out _ (rd_mem hO (by repeat (first | exact List.Mem.head _ | refine List.Mem.tail _ ?_)))) (fun hS => ?_); clear hK K
                        refine tO 7 (fun K hK => ?_)
                        (refine stp_build1 hO rfl (by rfl) (xs := kx) (by rfl) Tryd.underlying118 zs_rkid Tryd.sizeOf78 (by decide) (by decide) Hlx.out ?_; clear hO; intro b19 w7 hO)
                        refine tK hK (HLK.out _ (rd_mem hO (by repeat (first | exact List.Mem.head _ | refine List.Mem.tail _ ?_)))) (fun hS => ?_); clear hK K
                        refine tO 8 (fun K hK => ?_)
                        (refine step_appendG hO 2 rfl rfl (by rfl) (by rfl) (by rfl) Tryd.underlying118 info_rkid (by decide) (m := 1) (news := kx) (reads_pt hO 0 rfl (off := 0) (fun j u hu => by rw [Nat.zero_add, List.getElem?_toArray]; exact hu)) (by rw [Hlx.out]) Hox.out (by omega) (by omega) ?_; clear hO; intro aq cq' w8 hO; simp only [List.set_cons_zero, List.set_cons_succ] at hO)
                        refine tK hK (HLK.out _ (rd_mem hO (by repeat (first | exact List.Mem.head _ | refine List.Mem.tail _ ?_)))) (fun hS => ?_); clear hK K
                        refine tV 9 hS ?_
                        refine tO 10 (fun K hK => ?_)
                        (refine stp_setC hO 1 rfl rfl (by rfl) (by rfl) (by rfl) Tryd.sizeOf118 rfl rfl (by simp) ?_; clear hO; intro w9 hO; simp only [List.set_cons_zero, List.set_cons_succ] at hO)
                        refine tK hK (HLK.out _ (rd_mem hO (by repeat (first | exact List.Mem.head _ | refine List.Mem.tail _ ?_)))) (fun hS => ?_); clear hK K
                        refine wpAnyH_done (by kernel_rfl) ?_ _
                      rotate_right
                      focus
                        (refine stp_build1 hO rfl (by rfl) (xs := kx) (by rfl) Tryd.underlying118 zs_rkid Tryd.sizeOf78 (by decide) (by decide) Hlx.out ?_; clear hO; intro b19 w7 hO)
                        refine tK hK (HLK.out _ (rd_mem hO (by repeat (first | exact List.Mem.head _ | refine List.Mem.tail _ ?_)))) (fun hS => ?_); clear hK K
                        refine tO 1 (fun K hK => ?_)
                        (first | refine step_load1 hO 0 rfl rfl (by rfl) (by rfl) (by simp [go_sem]) rfl ?_ | refine step_load1 hO 1 rfl rfl (by rfl) (by rfl) (by simp [go_sem]) rfl ?_)
                        refine tK hK (HLK.out _ (rd_mem hO (by repeat (first | exact List.Mem.head _ | refine List.Mem.tail _ ?_)))) (fun hS => ?_); clear hK K
                        refine tO 8 (fun K hK => ?_)
                        (refine step_appendG hO 2 rfl rfl (by rfl) (by rfl) (by rfl) Tryd.underlying118 info_rkid (by decide) (m := 1) (news := kx) (reads_pt hO 0 rfl (off := 0) (fun j u hu => by rw [Nat.zero_add, List.getElem?_toArray]; exact hu)) (by rw [Hlx.out]) Hox.out (by omega) (by omega) ?_; clear hO; intro aq cq' w8 hO; simp only [List.set_cons_zero, List.set_cons_succ] at hO)
                        refine tK hK (HLK.out _ (rd_mem hO (by repeat (first | exact List.Mem.head _ | refine List.Mem.tail _ ?_)))) (fun hS => ?_); clear hK K
                        refine tV 9 hS ?_
                        refine tO 10 (fun K hK => ?_)
                        (refine stp_setC hO 1 rfl rfl (by rfl) (by rfl) (by rfl) Tryd.sizeOf118 rfl rfl (by simp) ?_; clear hO; intro w9 hO; simp only [List.set_cons_zero, List.set_cons_succ] at hO)
                        refine tK hK (HLK.out _ (rd_mem hO (by repeat (first | exact List.Mem.head _ | refine List.Mem.tail _ ?_)))) (fun hS => ?_); clear hK K
                        refine wpAnyH_done (by kernel_rfl) ?_ _
                      all_goals
                        clear hS hE
                        have hE := hO.tail
                        clear hO
                        go_wp2
                        go_roundw
                        case rel =>
                          refine ⟨q + 1, aq, cq', hq1, by have := Ht.out; omega, by have := Ht.out; congr 1; omega, ?_⟩
                          rw [Htk.out]
                          exact hE
                        case measure =>
                          have := Ht.out
                          simp [intOf] <;> omega
                    · have hp : (ks.drop j6).take q = pcAt 6 ks j := by
                        rw [Hpp.out, List.take_eq_take_iff, List.length_drop]
                        omega
                      have hpl : (pcAt 6 ks j).length = q := by rw [← hp, List.length_take, List.length_drop]; omega
                      rw [hp] at hE
                      have hin : Chunk.mk 2 [] (pcAt 6 ks j) ∈ level ks := by
                        have h2 : Chunk.mk 2 [] (pcAt 6 ks j) ∈ (level ks).take (j + 1) := by rw [Hpc.out]; simp
                        exact List.mem_of_mem_take h2
                      obtain ⟨hm, hgd, _⟩ := Hlv.out.1 _ hin
                      have hsz : csize ⟨2, [], pcAt 6 ks j⟩ < 4294967296 := by
                        have e : csize ⟨2, [], pcAt 6 ks j⟩ = sum1 (pcAt 6 ks j) := by simp [csize]
                        rw [e]
                        refine Nat.lt_of_le_of_lt (sum1_mem ?_) Hfil.out.2.2.2.1
                        rw [pcsL]
                        exact List.mem_map.2 ⟨j, List.mem_range.2 hlj, rfl⟩
                      have hkid := kidOf_good hsz
                      have hkl : (((level ks).take j).map kidOf).length = j := by rw [List.length_map, List.length_take, level_len]; omega
                      have HX := SL.hid (fun (L : List HProp) (w : World) (hk : Knows L (reads (.slice a q cq) q (kidCells (pcAt 6 ks j)))) (hE : Ent L w) => show Calls Tryd.prog 57 #[.agg tl.toArray, .agg #[.int .u8 2, .string ⟨#[]⟩, .slice a q cq]] w
                          (Ret fun v w' => ∃ b, v = .agg (kcells (kidOf ⟨2, [], pcAt 6 ks j⟩) ++ [Value.slice (some ⟨b, 0, none⟩) 1 1]).toArray ∧ Ent (pt b (.cells #[txB ⟨2, [], pcAt 6 ks j⟩] 9) :: L) w') from by
                        have h := HO.out 2 [] (pcAt 6 ks j) a cq hgd hm hsz L w
                        rw [hpl] at h
                        exact h hk hE)
                      have Hlen := SL.hid (show ∀ v, (kcells (kidOf ⟨2, [], pcAt 6 ks j⟩) ++ [v]).length = 37 from fun v => topC_len hkid v)
                      have Hone := SL.hid (show ∀ (a : Option Addr) (n c : Nat), ∀ y ∈ kcells (kidOf ⟨2, [], pcAt 6 ks j⟩) ++ [Value.slice a n c], y.oneCell' = true from fun a n c => topC_one _ rfl)
                      have H36 := SL.hid (show ∀ v, (kcells (kidOf ⟨2, [], pcAt 6 ks j⟩) ++ [v]).toArray[36]? = some v from fun v => by
                        rw [List.getElem?_toArray, List.getElem?_append_right (by rw [kcells_len hkid]; omega), kcells_len hkid]; rfl)
                      have Htop := SL.hid (show ∀ v, topsC (((level ks).take j).map kidOf ++ [kidOf ⟨2, [], pcAt 6 ks j⟩]) (vs9 ++ [v]) = topsC (((level ks).take j).map kidOf) vs9 ++ (kcells (kidOf ⟨2, [], pcAt 6 ks j⟩) ++ [v]) from fun v => by
                        rw [topsC_app (by rw [hkl, hv9]), topsC_one]; rfl)
                      have Hst := SL.hid (show ((level ks).take (j + 1)).map kidOf = ((level ks).take j).map kidOf ++ [kidOf ⟨2, [], pcAt 6 ks j⟩] by rw [Hpc.out]; simp)
                      have Hdt := SL.hid (show (dn ++ (level ks).take (j + 1)).map txB = (dn ++ (level ks).take j).map txB ++ [txB ⟨2, [], pcAt 6 ks j⟩] by rw [Hpc.out]; simp)
                      have htb := SL.hid (show ∀ u ∈ [txB ⟨2, [], pcAt 6 ks j⟩], u.oneCell' = true by simp [txB, Value.oneCell'])
                      have h66 : 6 * (j + 1) = j6 + 6 := by have := H66.out; omega
                      have H66b := SL.hid h66
                      have Hv9 := SL.hid hv9
                      clear hp hin hm hgd hsz hkid hkl h66 hv9
                      generalize pcAt 6 ks j = p at *
                      generalize hk9 : ((level ks).take j).map kidOf = k9 at *
                      generalize hts : (dn ++ (level ks).take j).map txB = ts at *
                      generalize hkk : kidOf ⟨2, [], p⟩ = kk at *
                      clear hkk hk9 hts
                      generalize kcells kk = kx at *
                      generalize txB ⟨2, [], p⟩ = tb at *
                      generalize kidCells p = pk at *
                      have hT := HT.out _ _ sfx hE
                      have hTl : ¬ (q < 6 ∧ t < ks.length) := hq
                      by_cases hq6' : q = 6
                      · have c1 : decide (t < j6 + 6) = false := decide_eq_false (by have := Ht.out; omega)
                        have c1i : decide ((t : Int) < (j6 : Int) + 6) = false := decide_eq_false (by have := Ht.out; omega)
                        clear hpl hTl hq hq6'
                        go_wp2_with (first
                          | go_skip
                          | (refine lwX (t := 120) hE Tryd.isAgg120 Tryd.sizeOf120 ?_)
                          | (go_at_call 57; refine (HX.out _ _ (fun w h => reads_row h 1 rfl) hE).mono ?_; clear hE hT; rintro e w5 ⟨v, rfl, b, rfl, hE⟩)
                          | ((with_reducible (show Go.wpList _ _ _ (Go.Oper.mk _ (.alloc 80) _ _ _ _ :: _) _ _)); refine wpl_allocN hE rfl rfl (n := 37) (by kernel_rfl) ?_; clear hE; intro b13 c13 w1 hq13 hE)
                          | ((with_reducible (show Go.wpList _ _ _ (Go.Oper.mk _ (.store 80 _ _) _ _ _ _ :: _) _ _)); refine wpl_storeN hE 0 rfl rfl rfl rfl (xs := kx ++ [Value.slice (some ⟨b, 0, none⟩) 1 1]) rfl Tryd.sizeOf80 (Hlen.out _) (Hone.out _ _ _) hq13 ?_; clear hE hq13; intro w2 hE; simp only [List.set_cons_zero] at hE)
                          | ((with_reducible (show Go.wpList _ _ _ (Go.Oper.mk _ (.load 80 _) _ _ _ _ :: _) _ _)); refine wpl_loadW (xs := kx ++ [Value.slice (some ⟨b, 0, none⟩) 1 1]) hE 0 rfl rfl rfl rfl Tryd.isAgg80 Tryd.sizeOf80 (Hlen.out _) ?_)
                          | ((with_reducible (show Go.wpList _ _ _ (Go.Oper.mk _ (.buildSlice _ _ _) _ _ _ _ :: _) _ _)); refine wpl_build1 hE rfl rfl (xs := kx ++ [Value.slice (some ⟨b, 0, none⟩) 1 1]) rfl Tryd.underlying158 zs_top Tryd.sizeOf80 (by decide) (by decide) (Hlen.out _) ?_; clear hE; intro b15 w3 hE)
                          | ((with_reducible (show Go.wpList _ _ _ (Go.Oper.mk _ (.call { callee := .builtin .append, args := _, argTypes := #[158, 158] }) _ _ _ _ :: _) _ _)); refine wpl_appendG hE 6 rfl rfl rfl rfl rfl Tryd.underlying158 info_top (by decide) (m := 1) (news := kx ++ [Value.slice (some ⟨b, 0, none⟩) 1 1]) (reads_pt hE 0 rfl (off := 0) (fun j u hu => by rw [Nat.zero_add, List.getElem?_toArray]; exact hu)) (by rw [Hlen.out]) (Hone.out _ _ _) (by omega) (by omega) ?_; clear hE; intro a9' c9' w6 hE; simp only [List.set_cons_zero, List.set_cons_succ] at hE)
                          | ((with_reducible (show Go.wpList _ _ _ (Go.Oper.mk _ (.load 22 _) _ _ _ _ :: _) _ _)); refine wpl_load1 hE 1 rfl rfl rfl rfl (by simp [go_sem]) (H36.out _) ?_)
                          | ((with_reducible (show Go.wpList _ _ _ (Go.Oper.mk _ (.call { callee := .builtin .append, args := _, argTypes := #[22, 22] }) _ _ _ _ :: _) _ _)); refine wpl_appendG hE 5 rfl rfl rfl rfl rfl Tryd.underlying22 info_text (by decide) (m := 1) (news := [tb]) (reads_pt hE 2 rfl (off := 0) (fun j u hu => by rw [Nat.zero_add, List.getElem?_toArray]; exact hu)) rfl htb.out (by omega) (by omega) ?_; clear hE; intro an' cn' w7 hE; simp only [List.set_cons_zero, List.set_cons_succ] at hE))
                        go_roundw
                        case rel =>
                          refine ⟨j + 1, an', cn', a9', c9', vs9 ++ [Value.slice (some ⟨b, 0, none⟩) 1 1], hlj, by rw [H66b.out]; simp, rfl, rfl, by rw [List.length_append, Hv9.out]; rfl, ?_⟩
                          rw [Hst.out, Hdt.out, Htop.out]
                          exact hE.tail.tail.tail.tail.tail
                        case measure =>
                          have := H66.out
                          show pcN 6 ks.length * 6 - (((j6 + 6 : Nat) : Int)).toNat < pcN 6 ks.length * 6 - ((j6 : Nat) : Int).toNat
                          omega
                      · have c1 : decide (t < j6 + 6) = true := decide_eq_true (by have := Ht.out; omega)
                        have c1i : decide ((t : Int) < (j6 : Int) + 6) = true := decide_eq_true (by have := Ht.out; omega)
                        have c2 : decide (t < ks.length) = false := decide_eq_false (fun h => hTl ⟨by omega, h⟩)
                        clear hpl hTl hq hq6'
                        go_wp2_with (first
                          | go_skip
                          | (refine lwX (t := 120) hE Tryd.isAgg120 Tryd.sizeOf120 ?_)
                          | (go_at_call 57; refine (HX.out _ _ (fun w h => reads_row h 1 rfl) hE).mono ?_; clear hE hT; rintro e w5 ⟨v, rfl, b, rfl, hE⟩)
                          | ((with_reducible (show Go.wpList _ _ _ (Go.Oper.mk _ (.alloc 80) _ _ _ _ :: _) _ _)); refine wpl_allocN hE rfl rfl (n := 37) (by kernel_rfl) ?_; clear hE; intro b13 c13 w1 hq13 hE)
                          | ((with_reducible (show Go.wpList _ _ _ (Go.Oper.mk _ (.store 80 _ _) _ _ _ _ :: _) _ _)); refine wpl_storeN hE 0 rfl rfl rfl rfl (xs := kx ++ [Value.slice (some ⟨b, 0, none⟩) 1 1]) rfl Tryd.sizeOf80 (Hlen.out _) (Hone.out _ _ _) hq13 ?_; clear hE hq13; intro w2 hE; simp only [List.set_cons_zero] at hE)
                          | ((with_reducible (show Go.wpList _ _ _ (Go.Oper.mk _ (.load 80 _) _ _ _ _ :: _) _ _)); refine wpl_loadW (xs := kx ++ [Value.slice (some ⟨b, 0, none⟩) 1 1]) hE 0 rfl rfl rfl rfl Tryd.isAgg80 Tryd.sizeOf80 (Hlen.out _) ?_)
                          | ((with_reducible (show Go.wpList _ _ _ (Go.Oper.mk _ (.buildSlice _ _ _) _ _ _ _ :: _) _ _)); refine wpl_build1 hE rfl rfl (xs := kx ++ [Value.slice (some ⟨b, 0, none⟩) 1 1]) rfl Tryd.underlying158 zs_top Tryd.sizeOf80 (by decide) (by decide) (Hlen.out _) ?_; clear hE; intro b15 w3 hE)
                          | ((with_reducible (show Go.wpList _ _ _ (Go.Oper.mk _ (.call { callee := .builtin .append, args := _, argTypes := #[158, 158] }) _ _ _ _ :: _) _ _)); refine wpl_appendG hE 6 rfl rfl rfl rfl rfl Tryd.underlying158 info_top (by decide) (m := 1) (news := kx ++ [Value.slice (some ⟨b, 0, none⟩) 1 1]) (reads_pt hE 0 rfl (off := 0) (fun j u hu => by rw [Nat.zero_add, List.getElem?_toArray]; exact hu)) (by rw [Hlen.out]) (Hone.out _ _ _) (by omega) (by omega) ?_; clear hE; intro a9' c9' w6 hE; simp only [List.set_cons_zero, List.set_cons_succ] at hE)
                          | ((with_reducible (show Go.wpList _ _ _ (Go.Oper.mk _ (.load 22 _) _ _ _ _ :: _) _ _)); refine wpl_load1 hE 1 rfl rfl rfl rfl (by simp [go_sem]) (H36.out _) ?_)
                          | ((with_reducible (show Go.wpList _ _ _ (Go.Oper.mk _ (.call { callee := .builtin .append, args := _, argTypes := #[22, 22] }) _ _ _ _ :: _) _ _)); refine wpl_appendG hE 5 rfl rfl rfl rfl rfl Tryd.underlying22 info_text (by decide) (m := 1) (news := [tb]) (reads_pt hE 2 rfl (off := 0) (fun j u hu => by rw [Nat.zero_add, List.getElem?_toArray]; exact hu)) rfl htb.out (by omega) (by omega) ?_; clear hE; intro an' cn' w7 hE; simp only [List.set_cons_zero, List.set_cons_succ] at hE))
                        go_roundw
                        case rel =>
                          refine ⟨j + 1, an', cn', a9', c9', vs9 ++ [Value.slice (some ⟨b, 0, none⟩) 1 1], hlj, by rw [H66b.out]; simp, rfl, rfl, by rw [List.length_append, Hv9.out]; rfl, ?_⟩
                          rw [Hst.out, Hdt.out, Htop.out]
                          exact hE.tail.tail.tail.tail.tail
                        case measure =>
                          have := H66.out
                          show pcN 6 ks.length * 6 - (((j6 + 6 : Nat) : Int)).toNat < pcN 6 ks.length * 6 - ((j6 : Nat) : Int).toNat
                          omega
                · obtain rfl : j = pcN 6 ks.length := by omega
                  have hno : decide (6 * pcN 6 ks.length < ks.length) = false := decide_eq_false (fun h => hlj ((pc6_at (n := ks.length) (by omega)).1 h))
                  obtain ⟨_, _, f', hfil'⟩ := Hlv.out
                  have hll := level_len ks
                  have hlt9 := pcN_lt hlt
                  have Hfil' := SL.hid hfil'
                  rw [← hll] at hE hv9 hlt9
                  rw [List.take_length] at hE
                  rw [← hll]
                  rw [← hll] at hno
                  clear hfil' hll hlj hjn Hlv
                  generalize 6 * (level ks).length = g6 at *
                  go_wp2
                  go_roundw
                  case rel => exact ⟨dn ++ level ks, f', (level ks).map kidOf, vs9, a9, c9, an, cn, Hfil'.out, by rw [hv9, List.length_map], by rw [List.length_map], by rw [List.length_append], by
                    have h := hE.erase 2
                    simp only [rowP, List.length_map, List.length_append]
                    exact h⟩
                  case measure => exact hlt9
            · obtain ⟨kk, rfl, hfe, hgk⟩ := fil_end hfil hlt
              obtain ⟨bt, ot, rfl, _⟩ := reads_form (reads_row hE 1 rfl) (by simp) (by rw [topsC_len Hgk.out Hvl.out]; simp)
              have h0 : (Instr.loadAt 78 (.pointer (some ⟨bt, ot, none⟩))).run Tryd.prog wr = .ok (.agg (kcells kk).toArray) wr := top_kid Hgk.out Hvl.out (reads_row hE 1 rfl) (t := 0) (by simp)
              have Hbt := SL.hid (run_built_top hgk an dn.length cn)
              have Hlen := SL.hid (topC_len hgk (.slice an dn.length cn))
              have Hone := SL.hid (topC_one kk (v := .slice an dn.length cn) rfl)
              have Hfe := SL.hid (show fileC data = (dn, kk) from hfe)
              have Hvv := SL.hid (show Value.agg (topC kk (.slice an dn.length cn)).toArray = .agg (topC (fileC data).2 (.slice an ((fileC data).1.map putC).length cn)).toArray by rw [hfe, List.length_map])
              rw [Hl2.out] at hE
              replace hE : Ent (row 9 1 (.slice an dn.length cn) dn.length (dn.map txB) :: rowP (some ⟨bt, ot, none⟩) c [kk] vs :: pt b4 (.cells cs.toArray 80 (0, 0)) :: pt b2 (.cells tl.toArray 85 (0, 0)) :: l) wr := hE
              clear hfil hlt hfe hgk Hgk Hvl Hfil hl250 hdn HO HT
              generalize topC kk (.slice an dn.length cn) = tp at *
              generalize kcells kk = kx at *
              go_wp2_with (first
                | go_skip
                | ((with_reducible (show Go.wpList _ _ _ (Go.Oper.mk _ (.build 80 _) _ _ _ _ :: _) _ _)); refine wpl_built (ps := #[(0, .agg kx.toArray), (1, .slice an dn.length cn)]) rfl rfl (by first | rfl | simp [Act.eval] | (simp [Act.eval]; rfl)) Hbt.out ?_)
                | ((with_reducible (show Go.wpList _ _ _ (Go.Oper.mk _ (.store 80 _ _) _ _ _ _ :: _) _ _)); refine wpl_storeW hE 2 rfl rfl rfl (xs := tp) rfl rfl Tryd.sizeOf80 Hlen.out Hone.out Hq.out ?_; clear hE; intro w9 hE; simp only [List.set_cons_zero, List.set_cons_succ] at hE))
              refine bodyPost_ret (results_cellA rfl hE 2 rfl rfl Tryd.isAgg80 Tryd.sizeOf80 Hlen.out) rfl ?_
              refine ⟨_, rfl, an, cn, Hvv.out, ?_⟩
              have e1 : (dn.map putC).map (fun s => Value.string ⟨s.toArray⟩) = dn.map txB := by rw [List.map_map]; rfl
              rw [Hfe.out]
              simp only [rowT, List.length_map, e1]
              exact ((hE.erase 1).erase 1).erase 1

end Go.Proofs.YtehfbokkcamliaaDoor
namespace Go.SL
section
variable {P : Program} {ops : Array Oper} {rest : List Oper} {o : Oper} {a : Act} {Q : Exit → Act → World → Prop} {w : World} {l : List HProp}

theorem set_id {α : Type} {l : List α} {i : Nat} {x : α} (h : l[i]? = some x) : l.set i x = l := by
  obtain ⟨hi, rfl⟩ := List.getElem?_eq_some_iff.1 h
  exact List.set_getElem_self hi
theorem run_copyK (w : World) (dT sT ty elem : TypeId) {size : Nat} (g off dLen dCap : Nat) (ad : Addr) (n c : Nat) (cur : Array Value) (t : TypeId) (xs : List Value)
    (hu : P.underlying dT = some (.slice elem)) (hs : (P.info? elem).map (·.size) = some size) (hg : w.heap[g]? = some (.cells cur t (0, 0)))
    (hn : n ≤ dLen) (hx : xs.length = n * size) (hsrc : ∀ j v, xs[j]? = some v → w.cell? (ad.add j) = some v) (hfit : off + xs.length ≤ cur.size) (h1 : ∀ v ∈ xs, v.oneCell' = true) :
    (Builtin.copy_ #[dT, sT] ty #[.slice (some ⟨g, off, none⟩) dLen dCap, .slice (some ad) n c]).run P w =
      .ok (goInt n) (w.setRow g (cur.toList.take off ++ xs ++ cur.toList.drop (off + xs.length)).toArray) := by
  have hl := run_loadCells_list (P := P) w ad xs hsrc
  have hst := run_storeCells_at P g off t xs 0 cur w hg (by simpa using hfit) h1
  have hm : Nat.min n dLen = n := Nat.min_eq_left hn
  cases hq : P.info? elem with
  | none => simp [hq] at hs
  | some i =>
    have hi : i.size = size := by simpa [hq] using hs
    rw [hx] at hl
    simp [Builtin.copy_, run_underlying hu, Builtin.lenOf, Builtin.firstCells, sizeOf, typeInfo, hq, hi, hm, hl, hst]
theorem run_copyK0 (w : World) (dT sT ty elem : TypeId) {size : Nat} (d s : Option Addr) (dLen dCap n c : Nat) (hu : P.underlying dT = some (.slice elem)) (hs : (P.info? elem).map (·.size) = some size) (hn : n = 0) :
    (Builtin.copy_ #[dT, sT] ty #[.slice d dLen dCap, .slice s n c]).run P w = .ok (goInt 0) w := by
  subst hn
  cases hq : P.info? elem with
  | none => simp [hq] at hs
  | some i =>
    have hl : ∀ (x : Addr), (loadCells x 0).run P w = .ok #[] w := fun x => by simpa using run_loadCells_list (P := P) w x [] (by simp)
    cases d <;> cases s <;> simp [Builtin.copy_, run_underlying hu, Builtin.lenOf, Builtin.firstCells, sizeOf, typeInfo, hq, storeCells, hl]

/-- elements copied into an owned row, from element j on -/
theorem Ent.copyRow (hE : Ent l w) (i : Nat) {e : TypeId} {size n c g : Nat} {xs : List Value} (hi : l[i]? = some (row e size (.slice (some ⟨g, 0, none⟩) n c) n xs)) {dT sT : TypeId} (ty : TypeId)
    (hu : P.underlying dT = some (.slice e)) (hs : (P.info? e).map (·.size) = some size) {m : Nat} {v : Value} {ys : List Value} (hr : reads v m ys w) (hy : ys.length = m * size) (h1 : ∀ u ∈ ys, u.oneCell' = true)
    {j : Nat} (dLen dCap : Nat) (hm : m ≤ dLen) (hfit : j + m ≤ n) :
    ∃ w', (Builtin.copy_ #[dT, sT] ty #[.slice (cutAt size (some ⟨g, 0, none⟩) c j) dLen dCap, v]).run P w = .ok (goInt m) w' ∧ Ent (l.set i (row e size (.slice (some ⟨g, 0, none⟩) n c) n (splice xs (j * size) ys))) w' := by
  have hl : i < l.length := (List.getElem?_eq_some_iff.1 hi).1
  have hxs : xs.length = n * size := (hE.owns i hi).1
  obtain ⟨ao, cc, rfl, hnone, hc⟩ := hr
  by_cases h0 : m = 0
  · have hys : ys = [] := List.eq_nil_of_length_eq_zero (by rw [hy, h0]; simp)
    subst h0 hys
    refine ⟨w, run_copyK0 w dT sT ty e _ ao dLen dCap 0 cc hu hs rfl, ?_⟩
    have : splice xs (j * size) [] = xs := by simp [splice]
    rw [this, set_id hi]
    exact hE
  · obtain ⟨g', cap, cur, hv', hn1, hm1, hs1, ht1, hE1⟩ : ∃ (g' cap : Nat) (cur : Array Value), Value.slice (some ⟨g, 0, none⟩) n c = .slice (some ⟨g', 0, none⟩) n cap ∧ n ≤ cap ∧ cap ≤ maxLen ∧ cur.size = cap * size ∧ cur.toList.take (n * size) = xs ∧ Ent (l.set i (pt g' (.cells cur e (0, 0)))) w := hE.fromRow i hi (by omega)
    cases hv'
    cases ao with
    | none => exact absurd (hnone rfl).1 h0
    | some ad =>
      have hcut : cutAt size (some ⟨g, 0, none⟩) c j = some ⟨g, j * size, none⟩ := by
        unfold cutAt
        rw [if_neg (by omega)]
        simp [Addr.add_lit]
      have hcs : j * size + ys.length ≤ cur.size := by
        rw [hs1, hy, ← Nat.add_mul]
        exact Nat.mul_le_mul_right _ (by omega)
      have hxfit : j * size + ys.length ≤ xs.length := by
        rw [hxs, hy, ← Nat.add_mul]
        exact Nat.mul_le_mul_right _ hfit
      have hrun := run_copyK (P := P) w dT sT ty e g (j * size) dLen dCap ad m cc cur e ys hu hs (hE1.at i (by simp [hl])) hm hy (hc ad rfl) hcs h1
      rw [hcut]
      refine ⟨_, hrun, ?_⟩
      have hE2 := hE1.setRow i (b := g) (cs := cur) (T := e) (fz := (0, 0)) (by simp [hl]) (splice cur.toList (j * size) ys).toArray
      rw [List.set_set] at hE2
      have hE3 := hE2.toRow i (b := g) (cs := (splice cur.toList (j * size) ys).toArray) (e := e) (by simp [hl]) (size := size) (n := n) (cap := c) (xs := splice xs (j * size) ys) (by rw [splice_length _ _ _ hxfit, hxs]) hn1 hm1
        (by simp only [List.size_toArray]; rw [splice_length _ _ _ (by simpa using hcs)]; simpa using hs1)
        (by rw [← ht1]; exact take_put _ _ _ _ (by rw [hxs] at hxfit; exact hxfit) (by simp only [Array.length_toList]; rw [hs1]; exact Nat.mul_le_mul_right _ hn1))
      rw [List.set_set] at hE3
      have e2 : splice cur.toList (j * size) ys = cur.toList.take (j * size) ++ ys ++ cur.toList.drop (j * size + ys.length) := by unfold splice; rfl
      rw [← e2]
      exact hE3
theorem wpl_copyK (hE : Ent l w) (i : Nat) {e : TypeId} {size n c g : Nat} {xs : List Value} (hi : l[i]? = some (row e size (.slice (some ⟨g, 0, none⟩) n c) n xs)) {d s : Operand} {dT sT : TypeId}
    (ho : o.op = .call { callee := .builtin .copy, args := #[d, s], argTypes := #[dT, sT] }) (hw : Region.wanted o (yielded ops a.tmps) = true)
    {j dLen dCap : Nat} (hd : a.eval d = .slice (cutAt size (some ⟨g, 0, none⟩) c j) dLen dCap) {v : Value} (hy : a.eval s = v)
    (hu : P.underlying dT = some (.slice e)) (hs : (P.info? e).map (·.size) = some size) {m : Nat} {ys : List Value} (hr : reads v m ys w) (hyl : ys.length = m * size) (h1 : ∀ u ∈ ys, u.oneCell' = true) (hm : m ≤ dLen) (hfit : j + m ≤ n)
    (h : ∀ w', Ent (l.set i (row e size (.slice (some ⟨g, 0, none⟩) n c) n (splice xs (j * size) ys))) w' → wpList P ops Q rest (a.put o.dst (goInt m)) w') : wpList P ops Q (o :: rest) a w := by
  obtain ⟨w', hr0, hE'⟩ := hE.copyRow (P := P) (sT := sT) i hi o.type hu hs hr hyl h1 (j := j) dLen dCap hm hfit
  refine wpl_run hw (w' := w') (v := goInt m) ?_ (h w' hE')
  simp [execOp, ho, resolve, invoke, builtin, hd, hy, hr0]
end
/-- a part of a row that is read: the first so many elements, and those behind -/
theorem reads_first {ao : Option Addr} {n c size : Nat} {xs : List Value} {w : World} (hr : reads (.slice ao n c) n xs w) {k : Nat} (hk : k ≤ n) : reads (.slice ao k c) k (xs.take (k * size)) w := by
  obtain ⟨ao', c', e, h1, h2⟩ := hr
  cases e
  refine ⟨ao, c, rfl, fun h => ?_, fun ad had j u hu => ?_⟩
  · obtain ⟨h3, h4⟩ := h1 h
    rw [h4]
    exact ⟨by omega, by simp⟩
  · refine h2 ad had j u ?_
    rw [List.getElem?_take] at hu
    split at hu
    · exact hu
    · cases hu
theorem cut_zero (size : Nat) (ao : Option Addr) (c : Nat) : cutAt size ao c 0 = ao := by
  unfold cutAt
  split
  · rfl
  · cases ao with
    | none => rfl
    | some a => simp [Addr.add]
theorem reads_behind {ao : Option Addr} {n c size : Nat} {xs : List Value} {w : World} (hr : reads (.slice ao n c) n xs w) (hx : xs.length = n * size) (hc : n ≤ c) {k : Nat} (hk : k ≤ n) : reads (.slice (cutAt size ao c k) (n - k) (c - k)) (n - k) (xs.drop (k * size)) w := by
  have h := reads_cut (size := size) hr hx hk (Nat.le_refl n) hc
  rwa [List.take_of_length_le (by rw [List.length_drop, hx, Nat.sub_mul]; omega)] at h
/-- parts put side by side -/
theorem splice_ins {z A B N : List Value} (hz : z.length = A.length + N.length + B.length) : splice (splice (splice z 0 A) (A.length + N.length) B) A.length N = A ++ N ++ B := by
  have h1 : (splice z 0 A).length = z.length := splice_length _ _ _ (by omega)
  have h2 : (splice (splice z 0 A) (A.length + N.length) B).length = z.length := by rw [splice_length _ _ _ (by omega), h1]
  apply List.ext_getElem?
  intro j
  rw [splice_get _ _ _ _ (by omega), splice_get _ _ _ _ (by omega), splice_get _ _ _ _ (by omega), List.append_assoc]
  by_cases a1 : j < A.length
  · rw [if_pos a1, if_pos (by omega), if_neg (by omega), if_pos (by omega), Nat.sub_zero, List.getElem?_append_left a1]
  · rw [if_neg a1, List.getElem?_append_right (by omega)]
    by_cases a2 : j < A.length + N.length
    · rw [if_pos a2, List.getElem?_append_left (by omega)]
    · rw [if_neg a2, if_neg a2, List.getElem?_append_right (by omega)]
      by_cases a3 : j < A.length + N.length + B.length
      · rw [if_pos a3]; congr 1; omega
      · rw [if_neg a3, if_neg (by omega), if_neg (by omega), List.getElem?_eq_none (by omega), List.getElem?_eq_none (by omega)]
theorem splice_all {z A B : List Value} (hz : z.length = A.length + B.length) : splice (splice z 0 A) A.length B = A ++ B := by
  have h := splice_ins (z := z) (A := A) (N := []) (B := B) (by simpa using hz)
  simp only [List.length_nil, Nat.add_zero, List.append_nil] at h
  have h1 : (splice z 0 A).length = z.length := splice_length _ _ _ (by omega)
  have e : ∀ y : List Value, splice y A.length [] = y := fun y => by simp [splice]
  rwa [e] at h
theorem splice_mid (A X N B : List Value) (h : X.length = N.length) : splice (A ++ (X ++ B)) A.length N = A ++ (N ++ B) := by
  unfold splice
  rw [List.take_left, ← h, List.drop_append, List.drop_eq_nil_of_le (by omega), List.nil_append, Nat.add_sub_cancel_left, List.drop_left, List.append_assoc]
section
variable {P : Program} {w : World} {l : List HProp} {ops : Array Oper} {o : Oper} {a : Act} {K : Act → World → Prop} {Q : Exit → Act → World → Prop} {E : Prop}
/-- .. as one step of a region that draws -/
theorem step_copyK (hE : Ent l w) (i : Nat) {e : TypeId} {size n c g : Nat} {xs : List Value} (hi : l[i]? = some (row e size (.slice (some ⟨g, 0, none⟩) n c) n xs)) {d s : Operand} {dT sT : TypeId}
    (ho : o.op = .call { callee := .builtin .copy, args := #[d, s], argTypes := #[dT, sT] }) (hw : Region.wanted o (yielded ops a.tmps) = true)
    {j dLen dCap : Nat} (hd : a.eval d = .slice (cutAt size (some ⟨g, 0, none⟩) c j) dLen dCap) {v : Value} (hy : a.eval s = v)
    (hu : P.underlying dT = some (.slice e)) (hs : (P.info? e).map (·.size) = some size) {m : Nat} {ys : List Value} (hr : reads v m ys w) (hyl : ys.length = m * size) (h1 : ∀ u ∈ ys, u.oneCell' = true) (hm : m ≤ dLen) (hfit : j + m ≤ n)
    (h : ∀ w', Ent (l.set i (row e size (.slice (some ⟨g, 0, none⟩) n c) n (splice xs (j * size) ys))) w' → K (a.put o.dst (goInt m)) w') : if Region.wanted o (yielded ops a.tmps) = true then Oper.wp P o a w K Q else E := by
  rw [if_pos hw]
  obtain ⟨w', hr0, hE'⟩ := hE.copyRow (P := P) (sT := sT) i hi o.type hu hs hr hyl h1 (j := j) dLen dCap hm hfit
  unfold Oper.wp execOp
  simp only [ho, resolve, invoke, builtin, Sem.run_bind, Sem.run_pure, Result.andThen_ok, List.map_toArray, List.map_cons, List.map_nil, hd, hy, hr0]
  exact h w' hE'
/-- an element of an owned row written, as one step of a region that draws -/
theorem step_storeRow (hE : Ent l w) (i : Nat) {e : TypeId} {size n c g off : Nat} {xs : List Value} (ys : List Value) (hi : l[i]? = some (row e size (.slice (some ⟨g, 0, none⟩) n c) n xs)) {t : TypeId} {x y : Operand} {k : Nat}
    (ho : o.op = .store t x y) (hw : Region.wanted o (yielded ops a.tmps) = true) (hx : a.eval x = .pointer (some ⟨g, off, none⟩)) (hy : a.eval y = .agg ys.toArray)
    (hn : ∀ w, (Go.sizeOf t).run P w = .ok k w) (hk : ys.length = k) (h1 : ∀ u ∈ ys, u.oneCell' = true) (hfit : off + k ≤ n * size)
    (h : ∀ w', Ent (l.set i (row e size (.slice (some ⟨g, 0, none⟩) n c) n (splice xs off ys))) w' → K (a.put o.dst undef) w') : if Region.wanted o (yielded ops a.tmps) = true then Oper.wp P o a w K Q else E := by
  rw [if_pos hw]
  obtain ⟨w', hr, hE'⟩ := hE.storeRow (P := P) i hi hn (v := .agg ys.toArray) (by simp [Value.cells]) hk h1 hfit
  have hx2 : (execOp a.eval o).run P w = .ok .skip w' := by simp [execOp, ho, hx, hy, hr]
  simp only [Oper.wp, hx2, Oper.upon]
  exact h w' hE'
end
end Go.SL
namespace Go.Proofs.YtehfbokkcamliaaDoor
open Go.RowKit Go.SL
namespace Tr

def look? (q : List (List UInt8)) (t : Tr) : Option (Bool × List UInt8) := (get? q t).map fun k => (k.dir, k.data)
theorem kid_iff {t : Tr} (h : Rising t.names) {m : List UInt8} {k : Tr} : t.kid? m = some k ↔ (m, k) ∈ t.kids := by
  refine ⟨kid_mem, fun hm => ?_⟩
  obtain ⟨i, hi, e⟩ := List.getElem_of_mem hm
  have := kid_at h hi
  rwa [e] at this
theorem wf_rising {d : Nat} {t : Tr} (h : Wf d t) : Rising t.names := by
  cases d with
  | zero => rw [names, h.1]; intro i hi; simp at hi
  | succ d => exact h.2.2.1
theorem wf_data {d : Nat} {t : Tr} (h : Wf d t) (hd : t.dir = true) : t.data = [] := by
  cases d with
  | zero => exact h.2.1 hd
  | succ d => exact h.2.1 hd
theorem wf_size {d : Nat} {t : Tr} (h : Wf d t) : t.data.length ≤ 8192 ∧ t.kids.length ≤ 6 := by
  cases d with
  | zero => exact ⟨h.2.2, by rw [h.1]; simp⟩
  | succ d => exact ⟨h.2.2.2.2.1, h.2.2.2.1⟩
theorem wf_kid {d : Nat} {t : Tr} (h : Wf d t) {k : List UInt8 × Tr} (hk : k ∈ t.kids) : ∃ e, d = e + 1 ∧ Wf e k.2 := by
  cases d with
  | zero => rw [h.1] at hk; cases hk
  | succ d => exact ⟨d, rfl, (h.2.2.2.2.2 k hk).2⟩
theorem kid_ins {t : Tr} (h : Rising t.names) {n : List UInt8} (hn : isIn t.names n = false) (k : Tr) (m : List UInt8) :
    (nd true [] (insAt (placeOf t.names n) (n, k) t.kids)).kid? m = if m = n then some k else t.kid? m := by
  have hr : Rising (nd true [] (insAt (placeOf t.names n) (n, k) t.kids)).names := by
    show Rising ((insAt (placeOf t.names n) (n, k) t.kids).map Prod.fst)
    rw [insAt_map]
    exact rising_ins h hn
  split
  · next e => subst e; exact (kid_iff hr).2 (insAt_mem.2 (.inl rfl))
  · next e =>
    cases hk : t.kid? m with
    | some x => exact (kid_iff hr).2 (insAt_mem.2 (.inr (kid_mem hk)))
    | none =>
      cases hk2 : (nd true [] (insAt (placeOf t.names n) (n, k) t.kids)).kid? m with
      | none => rfl
      | some x =>
        rcases insAt_mem.1 (kid_mem hk2) with h1 | h1
        · exact absurd (congrArg Prod.fst h1) e
        · rw [(kid_iff h).2 h1] at hk; cases hk
theorem kid_set {t : Tr} (h : Rising t.names) {n : List UInt8} (hn : isIn t.names n = true) (k : Tr) (m : List UInt8) :
    (nd true [] (t.kids.set (placeOf t.names n) (n, k))).kid? m = if m = n then some k else t.kid? m := by
  obtain ⟨hi, e, _⟩ := kid_place h hn
  have hr : Rising (nd true [] (t.kids.set (placeOf t.names n) (n, k))).names := by
    show Rising ((t.kids.set (placeOf t.names n) (n, k)).map Prod.fst)
    rw [names_set hi e]; exact h
  have mem : ∀ x : Tr, m ≠ n → ((m, x) ∈ t.kids.set (placeOf t.names n) (n, k) ↔ (m, x) ∈ t.kids) := fun x hm => by
    constructor
    · intro h1
      obtain ⟨j, hj, e1⟩ := List.getElem_of_mem h1
      rw [List.getElem_set] at e1
      split at e1
      · exact absurd (congrArg Prod.fst e1).symm hm
      · exact e1 ▸ List.getElem_mem _
    · intro h1
      obtain ⟨j, hj, e1⟩ := List.getElem_of_mem h1
      have hji : placeOf t.names n ≠ j := fun h2 => by
        subst h2
        rw [e1] at e
        exact hm e
      have : (t.kids.set (placeOf t.names n) (n, k))[j]'(by simpa using hj) = (m, x) := by rw [List.getElem_set_ne hji]; exact e1
      exact this ▸ List.getElem_mem _
  split
  · next hm =>
    subst hm
    refine (kid_iff hr).2 ?_
    exact List.mem_iff_getElem.2 ⟨placeOf t.names m, by simpa [kids] using hi, by simp [kids]⟩
  · next hm =>
    cases hk : t.kid? m with
    | some x => exact (kid_iff hr).2 ((mem x hm).2 (kid_mem hk))
    | none =>
      cases hk2 : (nd true [] (t.kids.set (placeOf t.names n) (n, k))).kid? m with
      | none => rfl
      | some x =>
        have := (mem x hm).1 (kid_mem hk2)
        rw [(kid_iff h).2 this] at hk; cases hk
theorem look_nil (t : Tr) : look? [] t = some (t.dir, t.data) := rfl
theorem look_cons (n : List UInt8) (r : List (List UInt8)) (t : Tr) : look? (n :: r) t = match t.kid? n with
    | none => none
    | some k => look? r k := by
  rw [look?, get?]
  cases t.kid? n <;> rfl
theorem kid_leaf (xd : Bool) (xb n : List UInt8) : (leafOf xd xb).kid? n = none := rfl

theorem with_dir : ∀ {names : List (List UInt8)} {xd : Bool} {xb : List UInt8} {t : Tr}, (withT names xd xb t).1 = 0 → t.dir = true
  | [], _, _, _, h => by cases h
  | [n], xd, xb, t, h => by
    cases hd : t.dir with
    | true => rfl
    | false => rw [withT, hd] at h; cases h
  | n :: m :: r, xd, xb, t, h => by
    cases hd : t.dir with
    | true => rfl
    | false => rw [withT, hd] at h; cases h

theorem with_look : ∀ {ns : List (List UInt8)} {xd : Bool} {xb : List UInt8} {d : Nat} {t : Tr}, Wf d t → (withT ns xd xb t).1 = 0 →
    (withT ns xd xb t).2.dir = true ∧ (withT ns xd xb t).2.data = [] ∧ ∀ q, look? q (withT ns xd xb t).2 = if q = ns then some (xd, xb) else look? q t
  | [], _, _, _, _, _, h => by cases h
  | [n], xd, xb, d, t, hw, h => by
    have hd := with_dir h
    have hr := wf_rising hw
    have hda := wf_data hw hd
    rw [withT, hd] at h ⊢
    cases hn : isIn t.names n with
    | true => rw [hn] at h; cases h
    | false =>
      rw [hn] at h
      simp only [Bool.not_false, Bool.and_self, if_true] at h ⊢
      split at h
      · cases h
      · next hc =>
        rw [if_neg hc]
        refine ⟨rfl, rfl, fun q => ?_⟩
        rcases q with _ | ⟨m, r⟩
        · rw [if_neg (by simp), look_nil, look_nil, hd, hda]; rfl
        · rw [look_cons, look_cons, kid_ins hr hn]
          by_cases hm : m = n
          · subst hm
            rw [if_pos rfl, kid_none.2 hn]
            rcases r with _ | ⟨m2, r⟩
            · simp [look_nil, leafOf, dir, data]
            · simp [look_cons, kid_leaf]
          · rw [if_neg hm, if_neg (by simp [hm])]
  | n :: m :: r, xd, xb, d, t, hw, h => by
    have hd := with_dir h
    have hr := wf_rising hw
    have hda := wf_data hw hd
    rw [withT, hd] at h ⊢
    cases hn : isIn t.names n with
    | false => rw [hn] at h; cases h
    | true =>
      rw [hn] at h
      simp only [Bool.and_self, if_true] at h ⊢
      obtain ⟨hi, e1, e2⟩ := kid_place hr hn
      have hg : t.kids.getD (placeOf t.names n) ([], zero) = t.kids[placeOf t.names n] := by
        rw [List.getD_eq_getElem?_getD, List.getElem?_eq_getElem hi]; rfl
      rw [hg] at h ⊢
      obtain ⟨d', rfl, hwk⟩ := wf_kid hw (List.getElem_mem hi)
      by_cases h0 : (withT (m :: r) xd xb t.kids[placeOf t.names n].2).1 = 0
      · rw [if_pos h0]
        obtain ⟨_, _, ih⟩ := with_look hwk h0
        refine ⟨rfl, rfl, fun q => ?_⟩
        rcases q with _ | ⟨o, s⟩
        · rw [if_neg (by simp), look_nil, look_nil, hd, hda]; rfl
        · rw [look_cons, look_cons, kid_set hr hn]
          by_cases ho : o = n
          · subst ho
            rw [if_pos rfl, e2]
            show look? s _ = _
            rw [ih s]
            by_cases hs : s = m :: r
            · subst hs; rw [if_pos rfl, if_pos rfl]
            · rw [if_neg hs, if_neg (by simp [hs])]
          · rw [if_neg ho, if_neg (by simp [ho])]
      · simp only [if_neg h0] at h
        exact absurd h h0
end Tr
end Go.Proofs.YtehfbokkcamliaaDoor
namespace Go.Proofs.YtehfbokkcamliaaDoor
open Go.RowKit Go.SL
namespace Tr

/-- why there may be no such node, as the document tells it: of what is at the names but the last, and of the last -/
def errAt (p : Option Tr) (n : List UInt8) (xb : List UInt8) : Int := match p with
  | none => 8
  | some p => if p.dir && !isIn p.names n then (if 6 < p.kids.length + 1 ∨ 8192 < xb.length then 6 else 0) else 8
theorem wf_file {d : Nat} {t : Tr} (h : Wf d t) (hd : t.dir = false) : t.kids = [] := by
  cases d with
  | zero => exact h.1
  | succ d => exact h.1 hd
theorem with_err : ∀ {ns : List (List UInt8)} {n : List UInt8} {xd : Bool} {xb : List UInt8} {d : Nat} {t : Tr}, Wf d t →
    (withT (ns ++ [n]) xd xb t).1 = errAt (get? ns t) n xb
  | [], n, xd, xb, d, t, _ => by
    show (withT [n] xd xb t).1 = errAt (some t) n xb
    rw [withT, errAt]
    split
    · split <;> rfl
    · rfl
  | o :: ns, n, xd, xb, d, t, hw => by
    obtain ⟨m, r, hmr⟩ : ∃ m r, ns ++ [n] = m :: r := by
      cases ns with
      | nil => exact ⟨n, [], rfl⟩
      | cons m r => exact ⟨m, r ++ [n], rfl⟩
    have hr := wf_rising hw
    show (withT (o :: (ns ++ [n])) xd xb t).1 = _
    rw [hmr, withT, get?]
    cases hd : t.dir with
    | false =>
      have hk : t.kid? o = none := by rw [kid?, wf_file hw hd]; rfl
      rw [hk]; rfl
    | true =>
      cases ho : isIn t.names o with
      | false =>
        rw [kid_none.2 ho]; rfl
      | true =>
        obtain ⟨hi, e1, e2⟩ := kid_place hr ho
        obtain ⟨d', rfl, hwk⟩ := wf_kid hw (List.getElem_mem hi)
        have hg : t.kids.getD (placeOf t.names o) ([], zero) = t.kids[placeOf t.names o] := by
          rw [List.getD_eq_getElem?_getD, List.getElem?_eq_getElem hi]; rfl
        have ih := with_err (ns := ns) (n := n) (xd := xd) (xb := xb) hwk
        rw [hmr] at ih
        rw [e2, hg]
        show _ = errAt (get? ns _) n xb
        rw [← ih]
        simp only [Bool.and_self, if_true]
        split
        · next h0 => exact h0.symm
        · rfl
/-- the tree is as it should be -/
theorem with_wf : ∀ {ns : List (List UInt8)} {xd : Bool} {xb : List UInt8} {d : Nat} {t : Tr}, Wf d t → ns.length ≤ d → ns.all isName = true → (xd = true → xb = []) → (withT ns xd xb t).1 = 0 → Wf d (withT ns xd xb t).2
  | [], _, _, _, _, _, _, _, _, h => by cases h
  | [n], xd, xb, d, t, hw, hl, hn, hx, h => by
    obtain ⟨d, rfl⟩ : ∃ e, d = e + 1 := ⟨d - 1, by simp at hl; omega⟩
    have hd := with_dir h
    have hr := wf_rising hw
    obtain ⟨_, _, _, w4, w5, w6⟩ := hw
    rw [withT, hd] at h ⊢
    cases hi : isIn t.names n with
    | true => rw [hi] at h; cases h
    | false =>
      rw [hi] at h
      simp only [Bool.not_false, Bool.and_self, if_true] at h ⊢
      split at h
      · cases h
      · next hc =>
        rw [if_neg hc]
        have hp : placeOf t.names n ≤ t.kids.length := by have := (find_at hr n).2.1; simpa [names] using this
        refine ⟨fun h => Bool.noConfusion (show true = false from h), fun _ => rfl, ?_, ?_, Nat.zero_le _, fun k hk => ?_⟩
        · show Rising ((insAt (placeOf t.names n) (n, leafOf xd xb) t.kids).map Prod.fst)
          rw [insAt_map]
          exact rising_ins hr hi
        · show (insAt (placeOf t.names n) (n, leafOf xd xb) t.kids).length ≤ 6
          rw [insAt_len hp]; omega
        · rcases insAt_mem.1 hk with rfl | hk
          · refine ⟨by simpa using hn, ?_⟩
            cases d with
            | zero => exact ⟨rfl, hx, by show xb.length ≤ 8192; omega⟩
            | succ d => exact ⟨fun _ => rfl, hx, fun i hi => by simp [names, leafOf, kids] at hi, Nat.zero_le _, by show xb.length ≤ 8192; omega, fun k hk => by cases hk⟩
          · exact w6 k hk
  | n :: m :: r, xd, xb, d, t, hw, hl, hn, hx, h => by
    obtain ⟨d, rfl⟩ : ∃ e, d = e + 1 := ⟨d - 1, by simp at hl; omega⟩
    have hd := with_dir h
    have hr := wf_rising hw
    obtain ⟨_, _, _, w4, w5, w6⟩ := hw
    rw [withT, hd] at h ⊢
    cases hi : isIn t.names n with
    | false => rw [hi] at h; cases h
    | true =>
      rw [hi] at h
      simp only [Bool.and_self, if_true] at h ⊢
      obtain ⟨hp, e1, e2⟩ := kid_place hr hi
      have hg : t.kids.getD (placeOf t.names n) ([], zero) = t.kids[placeOf t.names n] := by
        rw [List.getD_eq_getElem?_getD, List.getElem?_eq_getElem hp]; rfl
      rw [hg] at h ⊢
      have hwk := w6 _ (List.getElem_mem hp)
      by_cases h0 : (withT (m :: r) xd xb t.kids[placeOf t.names n].2).1 = 0
      · rw [if_pos h0]
        have ih := with_wf hwk.2 (by simp at hl ⊢; omega) (by simp at hn ⊢; exact ⟨hn.2.1, hn.2.2⟩) hx h0
        refine ⟨fun h => Bool.noConfusion (show true = false from h), fun _ => rfl, ?_, ?_, Nat.zero_le _, fun k hk => ?_⟩
        · show Rising ((t.kids.set (placeOf t.names n) _).map Prod.fst)
          rw [names_set hp e1]; exact hr
        · show (t.kids.set _ _).length ≤ 6
          rw [List.length_set]; exact w4
        · rcases List.mem_or_eq_of_mem_set hk with hk | rfl
          · exact w6 k hk
          · exact ⟨by simp at hn; exact hn.1, ih⟩
      · simp only [if_neg h0] at h
        exact absurd h h0
theorem with_zero {ns : List (List UInt8)} {xd : Bool} {xb : List UInt8} {t : Tr} (h : (withT ns xd xb t).1 ≠ 0) : (withT ns xd xb t).2 = zero := by
  rcases ns with _ | ⟨n, _ | ⟨m, r⟩⟩
  · rfl
  · rw [withT] at h ⊢
    split
    · next hc =>
      rw [if_pos hc] at h
      split
      · rfl
      · next h2 => rw [if_neg h2] at h; exact absurd rfl h
    · rfl
  · rw [withT] at h ⊢
    split
    · next hc =>
      rw [if_pos hc] at h
      simp only at h ⊢
      split
      · next h2 => rw [if_pos h2] at h; exact absurd rfl h
      · rfl
    · rfl
end Tr
end Go.Proofs.YtehfbokkcamliaaDoor
namespace Go.Proofs.YtehfbokkcamliaaDoor
open Go.RowKit Go.SL
theorem joinP_len : ∀ xs : List (List UInt8), (∀ x ∈ xs, x.length ≤ 600) → (joinP xs).length ≤ xs.length * 601
  | [], _ => by simp [joinP, Lib.join_nil]
  | [a], h => by
    rw [joinP_one]
    have := h a (by simp)
    simp only [List.length_cons, List.length_nil]
    omega
  | a :: b :: t, h => by
    rw [joinP_cons a (by simp)]
    have h1 := joinP_len (b :: t) (fun x hx => h x (by simp [hx]))
    have h2 := h a (by simp)
    simp only [List.length_append, List.length_cons] at h1 ⊢
    omega
theorem joinP_snoc (x : List UInt8) : ∀ l : List (List UInt8), l ≠ [] → joinP (l ++ [x]) = joinP l ++ 47 :: x
  | [], h => absurd rfl h
  | [a], _ => by
    rw [joinP_one, List.cons_append, joinP_cons a (by simp), List.nil_append, joinP_one]
  | a :: b :: t, _ => by
    have ih := joinP_snoc x (b :: t) (by simp)
    rw [List.cons_append, joinP_cons a (by simp), ih, joinP_cons a (by simp)]
    simp
theorem splitL_names (p : List UInt8) : (splitL p).length ≤ 6 ∧ (splitL p).all isName = true := by
  unfold splitL
  split
  · simp
  · split
    · rename_i h
      split
      · rename_i h6
        exact ⟨h6, h⟩
      · simp
    · simp
theorem name_len {x : List UInt8} (h : isName x = true) : 1 ≤ x.length ∧ x.length ≤ 16 := by
  simp only [isName, Bool.and_eq_true, decide_eq_true_eq] at h
  exact h.2
theorem splitL_len (p : List UInt8) : ∀ x ∈ splitL p, x.length ≤ 600 := fun x hx => by
  have := (name_len (List.all_eq_true.1 (splitL_names p).2 x hx)).2
  omega
theorem split_ok {p : List UInt8} (h : splitE p = 0) : joinP (splitL p) = p := by
  unfold splitE at h
  unfold splitL
  split at h
  · rename_i h0
    rw [if_pos h0, h0]
    rfl
  · rename_i h0
    rw [if_neg h0]
    split at h
    · rename_i ha
      rw [if_pos ha]
      split at h
      · rename_i h6
        rw [if_pos h6]
        exact join_cuts p
      · simp at h
    · simp at h
theorem split_ne {p : List UInt8} (h : splitE p ≠ 0) : splitL p = [] := by
  unfold splitE at h
  unfold splitL
  split at h
  · simp at h
  · rename_i h0
    rw [if_neg h0]
    split at h
    · rename_i ha
      rw [if_pos ha]
      split at h
      · simp at h
      · rename_i h6
        rw [if_neg h6]
    · rename_i ha
      rw [if_neg ha]
theorem joinP_ne {xs : List (List UInt8)} (h0 : xs ≠ []) (h : xs.all isName = true) : joinP xs ≠ [] := by
  obtain ⟨a, t, rfl⟩ := List.exists_cons_of_ne_nil h0
  simp only [List.all_cons, Bool.and_eq_true] at h
  have ha := (name_len h.1).1
  intro e
  have : (joinP (a :: t)).length = 0 := by rw [e]; rfl
  cases t with
  | nil => rw [joinP_one] at this; omega
  | cons b t => rw [joinP_cons a (by simp), List.length_append] at this; omega
theorem join_split {xs : List (List UInt8)} (h0 : xs ≠ []) (h : xs.all isName = true) (h6 : xs.length ≤ 6) : splitL (joinP xs) = xs ∧ splitE (joinP xs) = 0 := by
  have hc := cuts_join xs h0 h
  have := split_good (joinP_ne h0 h) (by rw [hc]; exact h) (by rw [hc]; exact h6)
  rwa [hc] at this
theorem joins_many {xs : List (List UInt8)} (h0 : xs ≠ []) (h : xs.all isName = true) (h6 : ¬ xs.length ≤ 6) : splitL (joinP xs) = [] ∧ splitE (joinP xs) = 6 := by
  have hc := cuts_join xs h0 h
  exact split_many (joinP_ne h0 h) (by rw [hc]; exact h) (by rw [hc]; exact h6)
end Go.Proofs.YtehfbokkcamliaaDoor
namespace Go.Proofs.YtehfbokkcamliaaDoor
open Go.RowKit Go.SL

/-- an entry -/
structure En where
  path : List UInt8
  dir : Bool
  data : List UInt8
/-- the path of a path's directory, as the document reckons it -/
def parP (p : List UInt8) : List UInt8 := ((p.reverse.dropWhile fun c => c != 47).drop 1).reverse
theorem dropWhile_free : ∀ {s r : List UInt8}, (∀ c ∈ s, c ≠ 47) → (s ++ r).dropWhile (fun c => c != 47) = r.dropWhile fun c => c != 47
  | [], _, _ => rfl
  | c :: s, r, h => by
    have hc : (c != 47) = true := by simpa using h c (by simp)
    rw [List.cons_append, List.dropWhile_cons, if_pos hc]
    exact dropWhile_free fun d hd => h d (by simp [hd])
theorem parP_free {n : List UInt8} (h : ∀ c ∈ n, c ≠ 47) : parP n = [] := by
  have := dropWhile_free (s := n.reverse) (r := []) (fun c hc => h c (by simpa using hc))
  rw [List.append_nil] at this
  rw [parP, this]; rfl
theorem parP_app {a n : List UInt8} (h : ∀ c ∈ n, c ≠ 47) : parP (a ++ 47 :: n) = a := by
  have e : (a ++ 47 :: n).reverse = n.reverse ++ 47 :: a.reverse := by simp
  rw [parP, e, dropWhile_free (fun c hc => h c (by simpa using hc))]
  simp
theorem joinP_end : ∀ {q : List (List UInt8)} {n : List UInt8}, q ≠ [] → joinP (q ++ [n]) = joinP q ++ 47 :: n
  | [], _, h => absurd rfl h
  | [a], n, _ => by
    show joinP (a :: [n]) = _
    rw [joinP_cons a (by simp), joinP_one, joinP_one]
  | a :: b :: q, n, _ => by
    show joinP (a :: ((b :: q) ++ [n])) = _
    rw [joinP_cons a (by simp), joinP_end (by simp), joinP_cons a (by simp), List.append_assoc]; rfl
theorem parP_join {q : List (List UInt8)} {n : List UInt8} (h : isName n = true) : parP (joinP (q ++ [n])) = joinP q := by
  by_cases hq : q = []
  · subst hq
    rw [List.nil_append, joinP_one, parP_free (name_free h)]; rfl
  · rw [joinP_end hq, parP_app (name_free h)]
/-- of a path that is one: its names -/
theorem split_names {p : List UInt8} (h : splitE p = 0) : (splitL p).all isName = true ∧ (splitL p).length ≤ 6 ∧ joinP (splitL p) = p ∧ (splitL p = [] ↔ p = []) := by
  refine ⟨?_, ?_, split_ok h, ?_⟩
  · unfold splitL splitE at *
    split
    · rfl
    · next h0 =>
      rw [if_neg h0] at h
      split
      · next h1 =>
        rw [if_pos h1] at h
        split
        · exact h1
        · rfl
      · rfl
  · unfold splitL
    split
    · simp
    · split
      · split
        · assumption
        · simp
      · simp
  · constructor
    · intro e
      have := split_ok h
      rw [e] at this
      exact this.symm
    · rintro rfl; rfl

/-- the row says what is at any names -/
def Rel (t : Tr) (L : List En) : Prop :=
  (∀ x ∈ L, splitE x.path = 0 ∧ x.path ≠ []) ∧ (L.map En.path).Nodup ∧
  ∀ q, q ≠ [] → ∀ d b, Tr.look? q t = some (d, b) ↔ ∃ x ∈ L, splitL x.path = q ∧ x.dir = d ∧ x.data = b
def root : Tr := .nd true [] []
theorem Rel.start : Rel root [] := by
  refine ⟨fun x hx => (by cases hx), List.nodup_nil, fun q hq d b => ?_⟩
  rcases q with _ | ⟨n, r⟩
  · exact absurd rfl hq
  · constructor
    · intro h
      rw [Tr.look_cons] at h
      cases h
    · rintro ⟨x, hx, _⟩; cases hx
theorem root_wf (d : Nat) : Tr.Wf d root := by
  cases d with
  | zero => exact ⟨rfl, fun _ => rfl, Nat.zero_le _⟩
  | succ d => exact ⟨fun _ => rfl, fun _ => rfl, fun i hi => by simp [Tr.names, root, Tr.kids] at hi, Nat.zero_le _, Nat.zero_le _, fun k hk => by cases hk⟩
/-- one more -/
theorem Rel.add {t : Tr} {L : List En} {x : En} {d : Nat} (hR : Rel t L) (hw : Tr.Wf d t) (hp : splitE x.path = 0) (h : (Tr.withT (splitL x.path) x.dir x.data t).1 = 0) (hno : Tr.look? (splitL x.path) t = none) :
    Rel (Tr.withT (splitL x.path) x.dir x.data t).2 (L ++ [x]) := by
  obtain ⟨r1, r2, r3⟩ := hR
  obtain ⟨_, _, hl⟩ := Tr.with_look hw h
  obtain ⟨_, _, n3, n4⟩ := split_names hp
  have hne : x.path ≠ [] := fun e => by
    rw [n4.2 e] at h; cases h
  have hnew : ∀ y ∈ L, splitL y.path ≠ splitL x.path := fun y hy e => by
    have := (r3 (splitL x.path) (fun e2 => hne (n4.1 e2)) y.dir y.data).2 ⟨y, hy, e, rfl, rfl⟩
    rw [hno] at this; cases this
  refine ⟨fun y hy => ?_, ?_, fun q hq d b => ?_⟩
  · rcases List.mem_append.1 hy with hy | hy
    · exact r1 y hy
    · rw [List.mem_singleton.1 hy]; exact ⟨hp, hne⟩
  · rw [List.map_append, List.nodup_append]
    refine ⟨r2, by simp, fun a ha b hb => ?_⟩
    obtain ⟨y, hy, rfl⟩ := List.mem_map.1 ha
    simp only [List.map_cons, List.map_nil, List.mem_singleton] at hb
    subst hb
    exact fun e => hnew y hy (by rw [e])
  · rw [hl q]
    by_cases hqx : q = splitL x.path
    · subst hqx
      rw [if_pos rfl]
      constructor
      · intro e
        cases e
        exact ⟨x, by simp, rfl, rfl, rfl⟩
      · rintro ⟨y, hy, e1, rfl, rfl⟩
        rcases List.mem_append.1 hy with hy | hy
        · exact absurd e1 (hnew y hy)
        · rw [List.mem_singleton.1 hy]
    · rw [if_neg hqx, r3 q hq]
      constructor
      · rintro ⟨y, hy, e⟩
        exact ⟨y, by simp [hy], e⟩
      · rintro ⟨y, hy, e1, e2⟩
        rcases List.mem_append.1 hy with hy | hy
        · exact ⟨y, hy, e1, e2⟩
        · rw [List.mem_singleton.1 hy] at e1
          exact absurd e1.symm hqx
end Go.Proofs.YtehfbokkcamliaaDoor
namespace Go.Proofs.YtehfbokkcamliaaDoor
open Go.RowKit Go.SL

theorem get_append : ∀ (q r : List (List UInt8)) (t : Tr), Tr.get? (q ++ r) t = (Tr.get? q t).bind (Tr.get? r)
  | [], r, t => rfl
  | n :: q, r, t => by
    show Tr.get? (n :: (q ++ r)) t = _
    rw [Tr.get?, Tr.get?]
    cases t.kid? n with
    | none => rfl
    | some k => exact get_append q r k
theorem get_snoc {q : List (List UInt8)} {n : List UInt8} {t p : Tr} (h : Tr.get? q t = some p) : Tr.get? (q ++ [n]) t = p.kid? n := by
  rw [get_append, h]
  show Tr.get? [n] p = _
  rw [Tr.get?]
  cases p.kid? n <;> rfl
theorem look_isSome {q : List (List UInt8)} {t : Tr} : (Tr.look? q t).isSome = (Tr.get? q t).isSome := by
  rw [Tr.look?, Option.isSome_map]
theorem wf_get : ∀ {q : List (List UInt8)} {t p : Tr} {d : Nat}, Tr.Wf d t → Tr.get? q t = some p → ∃ e, Tr.Wf e p
  | [], t, p, d, hw, h => by cases h; exact ⟨d, hw⟩
  | n :: q, t, p, d, hw, h => by
    rw [Tr.get?] at h
    cases hk : t.kid? n with
    | none => rw [hk] at h; cases h
    | some k =>
      rw [hk] at h
      obtain ⟨e, _, he⟩ := Tr.wf_kid hw (Tr.kid_mem hk)
      exact wf_get he h
theorem joinP_inj {a b : List (List UInt8)} (ha : a.all isName = true) (hb : b.all isName = true) (la : a.length ≤ 6) (lb : b.length ≤ 6) (h : joinP a = joinP b) : a = b := by
  by_cases h1 : a = []
  · subst h1
    by_cases h2 : b = []
    · exact h2.symm
    · exact absurd h.symm (joinP_ne h2 hb)
  · by_cases h2 : b = []
    · subst h2; exact absurd h (joinP_ne h1 ha)
    · have e1 := (join_split h1 ha la).1
      rw [h, (join_split h2 hb lb).1] at e1
      exact e1.symm
theorem snoc_of_ne {α : Type} {l : List α} (h : l ≠ []) : ∃ q n, l = q ++ [n] := ⟨l.dropLast, l.getLast h, (List.dropLast_concat_getLast h).symm⟩
/-- the entries of what is right in a directory -/
def kidsD (L : List En) (p : List UInt8) : List En := L.filter fun x => parP x.path == p
def Tr.isIn' (p : Tr) (n : List UInt8) : Bool := isIn p.names n
theorem kids_names {t p : Tr} {L : List En} {d : Nat} {q : List (List UInt8)} (hR : Rel t L) (hw : Tr.Wf d t) (hq : q.all isName = true) (lq : q.length ≤ 6) (hg : Tr.get? q t = some p) (n : List UInt8) :
    n ∈ p.names ↔ ∃ x ∈ L, splitL x.path = q ++ [n] := by
  obtain ⟨_, _, r3⟩ := hR
  obtain ⟨e, he⟩ := wf_get hw hg
  have h1 : n ∈ p.names ↔ Tr.isIn' p n = true := by rw [Tr.isIn', isIn, List.contains_iff_mem]
  have h2 : (Tr.look? (q ++ [n]) t).isSome = isIn p.names n := by
    rw [look_isSome, get_snoc hg]
    cases hk : p.kid? n with
    | none => rw [Tr.kid_none.1 hk]; rfl
    | some k =>
      cases hi : isIn p.names n with
      | true => rfl
      | false => rw [Tr.kid_none.2 hi] at hk; cases hk
  rw [h1, Tr.isIn', ← h2]
  constructor
  · intro h
    obtain ⟨⟨a, b⟩, hab⟩ := Option.isSome_iff_exists.1 h
    obtain ⟨x, hx, e1, _⟩ := (r3 _ (by simp) a b).1 hab
    exact ⟨x, hx, e1⟩
  · rintro ⟨x, hx, e1⟩
    rw [(r3 (q ++ [n]) (by simp) x.dir x.data).2 ⟨x, hx, e1, rfl, rfl⟩]; rfl
end Go.Proofs.YtehfbokkcamliaaDoor
namespace Go.Proofs.YtehfbokkcamliaaDoor
open Go.RowKit Go.SL

/-- entries whose directory it is, by their names -/
theorem kidsD_iff {L : List En} (h : ∀ x ∈ L, splitE x.path = 0 ∧ x.path ≠ []) {q : List (List UInt8)} (hq : q.all isName = true) (lq : q.length ≤ 6) {x : En} (hx : x ∈ L) :
    parP x.path = joinP q ↔ ∃ n, splitL x.path = q ++ [n] := by
  obtain ⟨h1, h2⟩ := h x hx
  obtain ⟨a, b, c, e⟩ := split_names h1
  obtain ⟨r, n, hr⟩ := snoc_of_ne (fun h3 => h2 (e.1 h3) : splitL x.path ≠ [])
  rw [hr] at a b c ⊢
  rw [List.all_append, Bool.and_eq_true] at a
  have hn : isName n = true := by simpa using a.2
  rw [← c, parP_join hn]
  constructor
  · intro h3
    exact ⟨n, by rw [joinP_inj a.1 hq (by simp at b; omega) lq h3]⟩
  · rintro ⟨m, hm⟩
    have := congrArg List.dropLast hm
    rw [List.dropLast_concat, List.dropLast_concat] at this
    rw [this]
theorem nodup_rising {ks : List (List UInt8)} (h : Rising ks) : ks.Nodup := by
  refine List.pairwise_iff_getElem.2 fun i j hi hj hij e => ?_
  have := Tr.rising_inj h hi hj e
  omega
theorem kids_count {t p : Tr} {L : List En} {d : Nat} {q : List (List UInt8)} (hR : Rel t L) (hw : Tr.Wf d t) (hq : q.all isName = true) (lq : q.length ≤ 6) (hg : Tr.get? q t = some p) :
    (kidsD L (joinP q)).length = p.kids.length := by
  have hk := kids_names hR hw hq lq hg
  obtain ⟨r1, r2, _⟩ := hR
  obtain ⟨e, he⟩ := wf_get hw hg
  have n1 : ((kidsD L (joinP q)).map fun x => splitL x.path).Nodup := by
    have e1 : (kidsD L (joinP q)).map En.path = ((kidsD L (joinP q)).map fun x => splitL x.path).map joinP := by
      rw [List.map_map]
      apply List.map_congr_left
      intro x hx
      have hx2 := (List.mem_filter.1 hx).1
      exact ((split_names (r1 x hx2).1).2.2.1).symm
    have n2 : ((kidsD L (joinP q)).map En.path).Nodup := r2.sublist (List.Sublist.map _ List.filter_sublist)
    rw [e1] at n2
    exact (List.pairwise_map.1 n2).imp fun h e => h (by rw [e])
  have n2 : (p.names.map fun n => q ++ [n]).Nodup := by
    exact List.pairwise_map.2 ((nodup_rising (Tr.wf_rising he)).imp fun h e => h (by simpa using e))
  have hp : ((kidsD L (joinP q)).map fun x => splitL x.path).Perm (p.names.map fun n => q ++ [n]) := by
    refine (List.perm_ext_iff_of_nodup n1 n2).2 fun s => ?_
    rw [List.mem_map, List.mem_map]
    constructor
    · rintro ⟨x, hx, rfl⟩
      obtain ⟨hx1, hx2⟩ := List.mem_filter.1 hx
      obtain ⟨n, hn⟩ := (kidsD_iff r1 hq lq hx1).1 (beq_iff_eq.1 hx2)
      exact ⟨n, (hk n).2 ⟨x, hx1, hn⟩, hn.symm⟩
    · rintro ⟨n, hn, rfl⟩
      obtain ⟨x, hx, e1⟩ := (hk n).1 hn
      exact ⟨x, List.mem_filter.2 ⟨hx, beq_iff_eq.2 ((kidsD_iff r1 hq lq hx).2 ⟨n, e1⟩)⟩, e1⟩
  have := hp.length_eq
  rw [List.length_map, List.length_map, Tr.names, List.length_map] at this
  exact this

/-- is there an entry of a path? -/
def hasD (L : List En) (p : List UInt8) : Bool := L.any fun x => x.path == p
/-- is there a directory of a path? -/
def dirD (L : List En) (p : List UInt8) : Bool := p == [] || L.any fun x => x.path == p && x.dir
/-- the document's error of one more entry -/
def addE (L : List En) (x : En) : Int :=
  if splitE x.path ≠ 0 then splitE x.path
  else if x.path = [] ∨ (x.dir = true ∧ x.data ≠ []) ∨ hasD L x.path = true ∨ dirD L (parP x.path) = false then 8
  else if 8192 < x.data.length ∨ 6 ≤ (kidsD L (parP x.path)).length then 6 else 0
/-- the program's -/
def addT (t : Tr) (x : En) : Int × Tr :=
  if splitE x.path ≠ 0 then (splitE x.path, .zero)
  else if x.dir = true ∧ x.data ≠ [] then (8, .zero)
  else Tr.withT (splitL x.path) x.dir x.data t
theorem hasD_iff {t : Tr} {L : List En} (hR : Rel t L) {p : List UInt8} (hp : splitE p = 0) (h0 : p ≠ []) : hasD L p = (Tr.get? (splitL p) t).isSome := by
  obtain ⟨r1, _, r3⟩ := hR
  obtain ⟨_, _, c, e⟩ := split_names hp
  rw [← look_isSome, hasD, Bool.eq_iff_iff, List.any_eq_true, Option.isSome_iff_exists]
  constructor
  · rintro ⟨x, hx, hxp⟩
    exact ⟨_, (r3 _ (fun h => h0 (e.1 h)) x.dir x.data).2 ⟨x, hx, by rw [beq_iff_eq.1 hxp], rfl, rfl⟩⟩
  · rintro ⟨⟨a, b⟩, hab⟩
    obtain ⟨x, hx, e1, _⟩ := (r3 _ (fun h => h0 (e.1 h)) a b).1 hab
    refine ⟨x, hx, beq_iff_eq.2 ?_⟩
    rw [← (split_names (r1 x hx).1).2.2.1, e1, c]
theorem dirD_iff {t : Tr} {L : List En} (hR : Rel t L) (ht : t.dir = true) {q : List (List UInt8)} (hq : q.all isName = true) (lq : q.length ≤ 6) : dirD L (joinP q) = match Tr.get? q t with
    | none => false
    | some p => p.dir := by
  obtain ⟨r1, _, r3⟩ := hR
  by_cases h0 : q = []
  · subst h0
    show (([] : List UInt8) == [] || _) = t.dir
    rw [ht]; rfl
  · have hj : (joinP q == []) = false := by rw [beq_eq_false_iff_ne]; exact joinP_ne h0 hq
    have key : (L.any fun x => x.path == joinP q && x.dir) = true ↔ ∃ b, Tr.look? q t = some (true, b) := by
      rw [List.any_eq_true]
      constructor
      · rintro ⟨x, hx, hxp⟩
        rw [Bool.and_eq_true, beq_iff_eq] at hxp
        refine ⟨x.data, (r3 q h0 true x.data).2 ⟨x, hx, ?_, hxp.2, rfl⟩⟩
        rw [hxp.1, (join_split h0 hq lq).1]
      · rintro ⟨b, hb⟩
        obtain ⟨x, hx, e1, e2, _⟩ := (r3 q h0 true b).1 hb
        refine ⟨x, hx, ?_⟩
        rw [Bool.and_eq_true, beq_iff_eq]
        exact ⟨by rw [← (split_names (r1 x hx).1).2.2.1, e1], e2⟩
    rw [dirD, hj, Bool.false_or, Bool.eq_iff_iff, key, Tr.look?]
    cases hg : Tr.get? q t with
    | none => simp
    | some p => simp
/-- both tell the same error -/
theorem add_err {t : Tr} {L : List En} {x : En} {d : Nat} (hR : Rel t L) (hw : Tr.Wf d t) (ht : t.dir = true) : (addT t x).1 = addE L x := by
  rw [addT, addE]
  by_cases h1 : splitE x.path ≠ 0
  · rw [if_pos h1, if_pos h1]
  · rw [if_neg h1, if_neg h1]
    have hs : splitE x.path = 0 := by simpa using h1
    obtain ⟨a, b, c, e⟩ := split_names hs
    by_cases h2 : x.dir = true ∧ x.data ≠ []
    · rw [if_pos h2, if_pos (.inr (.inl h2))]
    · rw [if_neg h2]
      by_cases h3 : x.path = []
      · rw [if_pos (.inl h3), e.2 h3]; rfl
      · obtain ⟨r, n, hr⟩ := snoc_of_ne (fun h4 => h3 (e.1 h4) : splitL x.path ≠ [])
        have hh := hasD_iff hR hs h3
        rw [hr] at a b c hh ⊢
        rw [List.all_append, Bool.and_eq_true] at a
        have hn : isName n = true := by simpa using a.2
        have lr : r.length ≤ 6 := by simp at b; omega
        have hpar : parP x.path = joinP r := by rw [← c, parP_join hn]
        have hd := dirD_iff hR ht a.1 lr
        rw [Tr.with_err hw, hpar, hh, hd]
        cases hg : Tr.get? r t with
        | none => simp [Tr.errAt]
        | some p =>
          have hc := kids_count hR hw a.1 lr hg
          have hi : (Tr.get? (r ++ [n]) t).isSome = isIn p.names n := by
            rw [get_snoc hg]
            cases hk : p.kid? n with
            | none => rw [Tr.kid_none.1 hk]; rfl
            | some k =>
              cases hi : isIn p.names n with
              | true => rfl
              | false => rw [Tr.kid_none.2 hi] at hk; cases hk
          rw [hi, hc]
          simp only [h3, h2, false_or, Tr.errAt]
          cases p.dir with
          | false => simp
          | true =>
            cases isIn p.names n with
            | true => simp
            | false =>
              simp only [Bool.not_false, Bool.and_self, if_true, Bool.false_eq_true, Bool.true_eq_false, or_self, if_false]
              have : (6 < p.kids.length + 1 ∨ 8192 < x.data.length) ↔ (8192 < x.data.length ∨ 6 ≤ p.kids.length) := by omega
              simp only [this]
end Go.Proofs.YtehfbokkcamliaaDoor
namespace Go.Proofs.YtehfbokkcamliaaDoor
open Go.RowKit Go.SL

theorem addT_zero {t : Tr} {x : En} (h : (addT t x).1 ≠ 0) : (addT t x).2 = .zero := by
  rw [addT] at h ⊢
  split
  · rfl
  · next h1 =>
    rw [if_neg h1] at h
    split
    · rfl
    · next h2 =>
      rw [if_neg h2] at h
      exact Tr.with_zero h
/-- what a tree of entries is like -/
def Good (t : Tr) (L : List En) : Prop := Rel t L ∧ Tr.Wf 6 t ∧ t.dir = true ∧ t.data = []
theorem good_root : Good root [] := ⟨Rel.start, root_wf 6, rfl, rfl⟩
theorem add_good {t : Tr} {L : List En} {x : En} (h : Good t L) (h0 : (addT t x).1 = 0) : Good (addT t x).2 (L ++ [x]) := by
  obtain ⟨hR, hw, hd, hb⟩ := h
  have h0' := h0
  rw [addT] at h0 ⊢
  split at h0
  · next h1 => exact absurd h0 h1
  · next h1 =>
    rw [if_neg h1]
    split at h0
    · cases h0
    · next h2 =>
      rw [if_neg h2]
      have hs : splitE x.path = 0 := by simpa using h1
      obtain ⟨a, b, c, e⟩ := split_names hs
      have hne : splitL x.path ≠ [] := fun h3 => by rw [h3] at h0; cases h0
      have hno : Tr.look? (splitL x.path) t = none := by
        obtain ⟨r, n, hr⟩ := snoc_of_ne hne
        rw [hr] at h0 ⊢
        rw [Tr.with_err hw] at h0
        cases hg : Tr.get? r t with
        | none => rw [hg] at h0; cases h0
        | some p =>
          rw [hg] at h0
          simp only [Tr.errAt] at h0
          split at h0
          · next h3 =>
            rw [Bool.and_eq_true, Bool.not_eq_true'] at h3
            rw [Tr.look?, get_snoc hg, Tr.kid_none.2 h3.2]; rfl
          · cases h0
      obtain ⟨l1, l2, _⟩ := Tr.with_look hw h0
      exact ⟨hR.add hw hs h0 hno, Tr.with_wf hw b a (fun h3 => by
        cases hx : x.data with
        | nil => rfl
        | cons y r => exact absurd ⟨h3, by rw [hx]; simp⟩ h2) h0, l1, l2⟩
def goT (t : Tr) : List En → Int × Tr
  | [] => (0, t)
  | x :: r => if (addT t x).1 = 0 then goT (addT t x).2 r else ((addT t x).1, .zero)
def goD (L : List En) : List En → Int × List En
  | [] => (0, L)
  | x :: r => if addE L x = 0 then goD (L ++ [x]) r else (addE L x, [])
def buildT (l : List En) : Int × Tr := if 64 < l.length then (6, .zero) else goT root l
def buildD (l : List En) : Int × List En := if 64 < l.length then (6, []) else goD [] l
theorem go_same : ∀ {r L : List En} {t : Tr}, Good t L → (goT t r).1 = (goD L r).1 ∧ ((goT t r).1 = 0 → Good (goT t r).2 (goD L r).2 ∧ (goD L r).2 = L ++ r)
  | [], L, t, h => ⟨rfl, fun _ => ⟨h, (List.append_nil _).symm⟩⟩
  | x :: r, L, t, h => by
    have he := add_err (x := x) h.1 h.2.1 h.2.2.1
    rw [goT, goD, ← he]
    split
    · next h0 =>
      obtain ⟨i1, i2⟩ := go_same (r := r) (add_good h h0)
      refine ⟨i1, fun h1 => ?_⟩
      obtain ⟨j1, j2⟩ := i2 h1
      exact ⟨j1, by rw [j2, List.append_assoc]; rfl⟩
    · next h0 => exact ⟨rfl, fun h1 => absurd h1 h0⟩
theorem build_same (l : List En) : (buildT l).1 = (buildD l).1 ∧ ((buildT l).1 = 0 → Good (buildT l).2 (buildD l).2 ∧ (buildD l).2 = l) := by
  rw [buildT, buildD]
  split
  · exact ⟨rfl, fun h => by cases h⟩
  · obtain ⟨h1, h2⟩ := go_same (r := l) good_root
    refine ⟨h1, fun h => ?_⟩
    obtain ⟨a, b⟩ := h2 h
    exact ⟨a, by rw [b]; rfl⟩
theorem goT_zero : ∀ {r : List En} {t : Tr}, (goT t r).1 ≠ 0 → (goT t r).2 = .zero
  | [], t, h => absurd rfl h
  | x :: r, t, h => by
    rw [goT] at h ⊢
    split
    · next h0 => rw [if_pos h0] at h; exact goT_zero h
    · rfl
theorem buildT_zero {l : List En} (h : (buildT l).1 ≠ 0) : (buildT l).2 = .zero := by
  rw [buildT] at h ⊢
  split
  · rfl
  · next h0 => rw [if_neg h0] at h; exact goT_zero h
end Go.Proofs.YtehfbokkcamliaaDoor
