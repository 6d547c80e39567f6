/-
  A chunk is put: its bytes behind the others, and what a parent has of it. Printed by gen_cu5.py.
-/
import Derived.Test.YtehfbokkcamliaaDoorCutNF3
import Derived.Shelf.RegionOpen
import Derived.Deep.RegionHeld
namespace Go.Proofs.YtehfbokkcamliaaDoor
open Go.RowKit Go.SL

theorem kid_len {d : Bool} {k : Kid} (h : k.good) (hn : k.name.length ≤ 16) : (kidB d k).length ≤ 100 := by
  unfold kidB
  have h1 := h.1
  cases d <;> simp [be_length, h1] <;> omega
theorem put_len {c : Chunk} (hg : c.good) (hm : mayC c = true) : (putC c).length ≤ 1000 := by
  obtain ⟨u, data, ks⟩ := c
  have h6 : ks.length ≤ 6 := mayC_kids hm
  unfold putC
  cases h1 : u == 1 with
  | true =>
    obtain rfl : u = 1 := by simpa using h1
    have := (mayC_1 hm).2
    simp only [if_true, List.length_cons]
    omega
  | false =>
    have hn : ∀ k ∈ ks, k.name.length ≤ 16 := by
      intro k hk
      have h2 := hm
      simp only [mayC, Bool.and_eq_true, h1, Bool.false_eq_true, if_false] at h2
      have h3 := h2.2
      split at h3
      · simp only [Bool.and_eq_true, List.all_eq_true] at h3
        have := h3.1.1.1 k hk
        unfold plainK at this
        simp only [Bool.and_eq_true, List.isEmpty_iff] at this
        rw [this.1]
        simp
      · split at h3
        · simp only [Bool.and_eq_true, List.all_eq_true] at h3
          obtain ⟨i, hi, rfl⟩ := List.getElem_of_mem hk
          have := h3.1 i (List.mem_range.2 hi)
          unfold dirOk at this
          rw [List.getElem?_eq_getElem hi] at this
          simp only [Bool.and_eq_true, decide_eq_true_eq] at this
          exact this.1.2
        · cases h3
    have hk : ∀ (ks : List Kid), (∀ k ∈ ks, k.good) → (∀ k ∈ ks, k.name.length ≤ 16) → (kidsB (u == 3) ks).length ≤ ks.length * 100 := by
      intro ks
      induction ks with
      | nil => intro _ _; simp [kidsB]
      | cons k ks ih =>
        intro h1 h2
        have a := kid_len (d := u == 3) (h1 k (List.mem_cons_self ..)) (h2 k (List.mem_cons_self ..))
        have b := ih (fun x hx => h1 x (List.mem_cons_of_mem _ hx)) (fun x hx => h2 x (List.mem_cons_of_mem _ hx))
        simp only [kidsB, List.flatMap_cons, List.length_append, List.length_cons] at b ⊢
        omega
    have := hk ks hg hn
    simp only [Bool.false_eq_true, if_false, List.length_cons]
    omega

abbrev rowT (ao : Option Addr) (c : Nat) (xs : List (List UInt8)) : HProp := row 9 1 (.slice ao xs.length c) xs.length (xs.map fun s => .string ⟨s.toArray⟩)
/-- the cutter, and the bytes that it has put -/
def xOut (bx : Nat) (out : List (List UInt8)) : HProp := ex fun z : Option Addr × Nat => [pt bx (.cells #[.slice z.1 out.length z.2, .bool false] 76), rowT z.1 z.2 out]
theorem info_text : elemInfo Tryd.prog 9 = some (some 1, 1, 16) := by kernel_rfl
theorem built_text (s : ByteArray) (w : World) : (Instr.buildSlice 22 1 #[(0, .string s)]).run Tryd.prog w = .ok (.slice (some ⟨w.heap.size, 0, none⟩) 1 1) (w.alloc (.cells #[.string s] 9)) := by
  simp [go_sem]
theorem hgtB_eq (c : Chunk) : hgtB c.kind c.kids = hgt c := by
  unfold hgtB hgt; rfl
theorem Ent.kid0 {l : List HProp} {w : World} {b : Nat} {cs : List Value} {T : TypeId} (hE : Ent (pt b (.cells cs.toArray T (0, 0)) :: l) w) : Ent l w := hE.tail

set_option maxRecDepth 100000 in
set_option maxHeartbeats 8000000 in
attribute [-go_sem] Instr.build Instr.loadAt in
theorem put_any {u : UInt8} {data : List UInt8} {ks : List Kid} {ao : Option Addr} {c : Nat} (hg : ∀ k ∈ ks, k.good) (hm : mayC ⟨u, data, ks⟩ = true) (hs : csize ⟨u, data, ks⟩ < 4294967296) {bx : Nat} {out : List (List UInt8)} (ho : out.length ≤ 1000000000000) {l : List HProp} {w : World}
    (ht : Knows l KTab) (hf : Knows l FTab) (hk : Knows l (reads (.slice ao ks.length c) ks.length (kidCells ks))) (hE : Ent (xOut bx out :: l) w) :
    Calls Tryd.prog 54 #[.pointer (some ⟨bx, 0, none⟩), .agg #[.int .u8 u.toNat, .string ⟨data.toArray⟩, .slice ao ks.length c]] w
      (Ret fun v w' => v = .agg (kcells (kidOf ⟨u, data, ks⟩)).toArray ∧ Ent (xOut bx (out ++ [putC ⟨u, data, ks⟩]) :: l) w') := by
  obtain ⟨⟨ax, cx⟩, hE'⟩ := Ent.unpack hE
  replace hE : Ent (pt bx (.cells #[.slice ax out.length cx, .bool false] 76) :: rowT ax cx out :: l) w := hE'
  clear hE'
  have h6 : ks.length ≤ 6 := mayC_kids hm
  have hh : hgt ⟨u, data, ks⟩ ≤ 255 := by
    simp only [mayC, Bool.and_eq_true, decide_eq_true_eq] at hm
    exact hm.1.1
  have hdl : data.length ≤ 1099511627776 := by
    cases h1 : u == 1 with
    | true =>
      obtain rfl : u = 1 := by simpa using h1
      have := (mayC_1 hm).2
      omega
    | false =>
      rw [(mayC_not1 h1 hm).1]
      simp
  have hpl := put_len (c := ⟨u, data, ks⟩) hg hm
  have HP := SL.hid (fun (L : List HProp) (w : World) (hE : Ent L w) (hl : l <:+ L) => cPut_yes hg hm hE (hk.suf hl))
  have HH := SL.hid (fun (L : List HProp) (w : World) (hE : Ent L w) (hl : l <:+ L) => Height_any (u := u) (data := data) hg (by omega) hE (hk.suf hl))
  have HZ := SL.hid (fun (L : List HProp) (w : World) (hE : Ent L w) (hl : l <:+ L) => Size_any (u := u) (data := data) hg (by omega) hdl hE (hk.suf hl))
  have hkid := kidOf_good (c := ⟨u, data, ks⟩) hs
  have Hhgt := SL.hid (kidOf_height hh)
  have Hbuild := SL.hid (show ∀ w, (Instr.build 55 #[(2, .agg (bvals (shaV (putC ⟨u, data, ks⟩))).toArray), (3, .int .u8 ((hgt ⟨u, data, ks⟩ : Nat) : Int)), (4, .int .u32 ((csize ⟨u, data, ks⟩ : Nat) : Int))]).run Tryd.prog w = .ok (.agg (kcells (kidOf ⟨u, data, ks⟩)).toArray) w from fun w => by
    have := run_built_kid hkid w
    rw [Hhgt.out] at this
    exact this)
  have Hlen := SL.hid (kcells_len hkid)
  have Hone := SL.hid (kcells_one (kidOf ⟨u, data, ks⟩))
  have e1 : hgtB u ks = hgt ⟨u, data, ks⟩ := rfl
  have e2 : sizeB u data ks = csize ⟨u, data, ks⟩ := rfl
  simp only [e1] at HH
  simp only [e2] at HZ
  generalize putC ⟨u, data, ks⟩ = bs at *
  generalize kcells (kidOf ⟨u, data, ks⟩) = kx at *
  generalize csize ⟨u, data, ks⟩ = zz at *
  generalize hgt ⟨u, data, ks⟩ = hg8 at *
  have HS := SL.hid (fun (L : List HProp) (w : World) (an : Option Addr) (cn : Nat) (hc : bs.length ≤ cn) (hl : l <:+ L) (hr : Knows L (reads (.slice an bs.length cn) bs.length (bvals bs))) (hE : Ent L w) => Sum_any (by omega) hc (ht.suf hl) (hf.suf hl) hr hE)
  have z1 : IntKind.u8.wrap (hg8 : Int) = (hg8 : Int) := by rw [IntKind.wrap_u8]; omega
  have z2 : (hg8 : Int) % 256 = (hg8 : Int) := by omega
  have z3 : IntKind.u32.wrap (zz : Int) = (zz : Int) := by rw [IntKind.wrap_u32]; omega
  have z4 : (zz : Int) % 4294967296 = (zz : Int) := by omega
  have Hpl := SL.hid hpl
  have Ho := SL.hid ho
  clear hpl ho hh hdl h6 e1 e2 hkid Hhgt hg hm hs hk ht hf
  go_enter Tryd.func54, Tryd.ntmps54
  go_wp2_with (first
    | go_skip
    | ((with_reducible (show Go.wpList _ _ _ (Go.Oper.mk _ (.box _ _) _ _ _ _ :: _) _ _)); refine wpl_box hE rfl rfl rfl ?_; clear hE; intro b3 w hE; simp only [Act.eval, Act.put, List.setIfInBounds_toArray, List.set_cons_zero, List.set_cons_succ, getD_lit, List.getD_cons_succ, List.getD_cons_zero, Value.cells] at hE)
    | ((with_reducible (show Go.wpList _ _ _ (Go.Oper.mk _ (.alloc 55) _ _ _ _ :: _) _ _)); refine wpl_allocN hE rfl rfl (n := 36) (by kernel_rfl) ?_; clear hE; intro b4 cs w1 hq hE)
    | ((with_reducible (show Go.wpList _ _ _ (Go.Oper.mk _ (.load 49 _) _ _ _ _ :: _) _ _)); (first | (refine wpl_loadW hE 0 rfl rfl rfl rfl Tryd.isAgg49 Tryd.sizeOf49 rfl ?_) | (refine wpl_loadW hE 1 rfl rfl rfl rfl Tryd.isAgg49 Tryd.sizeOf49 rfl ?_) | (refine wpl_loadW hE 2 rfl rfl rfl rfl Tryd.isAgg49 Tryd.sizeOf49 rfl ?_) | (refine wpl_loadW hE 3 rfl rfl rfl rfl Tryd.isAgg49 Tryd.sizeOf49 rfl ?_) | (refine wpl_loadW hE 4 rfl rfl rfl rfl Tryd.isAgg49 Tryd.sizeOf49 rfl ?_) | (refine wpl_loadW hE 5 rfl rfl rfl rfl Tryd.isAgg49 Tryd.sizeOf49 rfl ?_) | (refine wpl_loadW hE 6 rfl rfl rfl rfl Tryd.isAgg49 Tryd.sizeOf49 rfl ?_) | (refine wpl_loadW hE 7 rfl rfl rfl rfl Tryd.isAgg49 Tryd.sizeOf49 rfl ?_)))
    | (go_at_call 35; refine (HP.out _ _ hE sfx).mono ?_; clear hE; rintro e w5 ⟨v, rfl, ab, cb, rfl, hE⟩))
  have hcb := cap_row hE 0 rfl
  have Hq := SL.hid (show cs.toArray.size = 36 by simpa using hq)
  clear hq
  have hO := hE.drew
  have ho := Ho.out
  refine wp_region_held_drew (S := fun _ => True) (by kernel_rfl) trivial (fun hS => ?_)
  refine tV 0 ⟨some 18, .move (.tmp 0), _, _, _, none⟩ hS ?_
  refine tV 1 ⟨some 19, .move (.tmp 0), _, _, _, none⟩ hS ?_
  refine tV 2 ⟨some 20, .nilCheck (.tmp 19), _, _, _, none⟩ hS ?_
  refine tV 3 ⟨some 21, .fieldAddr 76 (.tmp 20) 0, _, _, _, none⟩ hS ?_
  refine tV 5 ⟨some 23, .move (.tmp 5), _, _, _, none⟩ hS ?_
  refine wpAnyH_ready (rs := [4, 6]) (by kernel_rfl) (by simp) ?_
  refine (AllReadyH.cons (o := ⟨some 22, .load 22 (.tmp 21), _, _, _, none⟩) rfl (fun K hK => ?_) (AllReadyH.cons (o := ⟨some 24, .convert 52 9 (.tmp 23), _, _, _, none⟩) rfl (fun K hK => ?_) AllReadyH.nil))
  focus
    ((first | refine step_load1 hO 3 rfl rfl (by rfl) (by rfl) (by simp [go_sem]) rfl ?_ | refine step_load1 hO 4 rfl rfl (by rfl) (by rfl) (by simp [go_sem]) rfl ?_))
    refine hK.out _ _ trivial (fun hS => ?_)
    clear hK K
    try simp only [Act.put, sb, s0, sz]
    refine wpAnyH_ready (rs := [6]) (by kernel_rfl) (by simp) ?_
    refine (AllReadyH.cons (o := ⟨some 24, .convert 52 9 (.tmp 23), _, _, _, none⟩) rfl (fun K hK => ?_) AllReadyH.nil)
    (refine stp_bytesStr rfl (by rfl) (by rfl) Tryd.underlying52 Tryd.underlying5 Tryd.underlying9 (reads_row hO 0 rfl) rfl ?_)
    refine hK.out _ _ trivial (fun hS => ?_)
    clear hK K
    try simp only [Act.put, sb, s0, sz]
    refine wpAnyH_ready (rs := [7]) (by kernel_rfl) (by simp) ?_
    refine (AllReadyH.cons (o := ⟨some 25, .buildSlice 22 1 #[(0, .tmp 24)], _, _, _, none⟩) rfl (fun K hK => ?_) AllReadyH.nil)
    (refine stp_buildC hO rfl (by rfl) (by rfl) (built_text _ _) ?_; clear hO; intro b9 w7 hO)
    refine hK.out _ _ trivial (fun hS => ?_)
    clear hK K
    try simp only [Act.put, sb, s0, sz]
    refine wpAnyH_ready (rs := [8]) (by kernel_rfl) (by simp) ?_
    refine (AllReadyH.cons (o := ⟨some 26, .call { callee := .builtin .append, args := #[.tmp 22, .tmp 25], argTypes := #[22, 22] }, _, _, _, none⟩) rfl (fun K hK => ?_) AllReadyH.nil)
    (refine step_appendG hO 5 rfl rfl (by rfl) (by rfl) (by rfl) Tryd.underlying22 info_text (by decide) (m := 1) (news := [.string ⟨bs.toArray⟩]) (reads_pt hO 0 rfl (off := 0) (fun j u hu => by rw [Nat.zero_add, List.getElem?_toArray]; exact hu)) rfl (by simp [Value.oneCell']) (by omega) (by omega) ?_; clear hO; intro an cn w8 hO; simp only [List.set_cons_zero, List.set_cons_succ] at hO)
    refine hK.out _ _ trivial (fun hS => ?_)
    clear hK K
    try simp only [Act.put, sb, s0, sz]
    refine tV 9 ⟨some 27, .nilCheck (.tmp 18), _, _, _, none⟩ hS ?_
    refine tV 10 ⟨some 28, .fieldAddr 76 (.tmp 27) 0, _, _, _, none⟩ hS ?_
    refine wpAnyH_ready (rs := [11]) (by kernel_rfl) (by simp) ?_
    refine (AllReadyH.cons (o := ⟨none, .store 22 (.tmp 28) (.tmp 26), _, _, _, none⟩) rfl (fun K hK => ?_) AllReadyH.nil)
    (refine stp_setC hO 4 rfl rfl (by rfl) (by rfl) (by rfl) Tryd.sizeOf22 rfl rfl (by simp) ?_; clear hO; intro w9 hO; simp only [List.set_cons_zero, List.set_cons_succ] at hO)
    refine hK.out _ _ trivial (fun hS => ?_)
    clear hK K
    try simp only [Act.put, sb, s0, sz]
    refine wpAnyH_done (by kernel_rfl) ?_ _
  rotate_right
  focus
    (refine stp_bytesStr rfl (by rfl) (by rfl) Tryd.underlying52 Tryd.underlying5 Tryd.underlying9 (reads_row hO 0 rfl) rfl ?_)
    refine hK.out _ _ trivial (fun hS => ?_)
    clear hK K
    try simp only [Act.put, sb, s0, sz]
    refine wpAnyH_ready (rs := [4, 7]) (by kernel_rfl) (by simp) ?_
    refine (AllReadyH.cons (o := ⟨some 22, .load 22 (.tmp 21), _, _, _, none⟩) rfl (fun K hK => ?_) (AllReadyH.cons (o := ⟨some 25, .buildSlice 22 1 #[(0, .tmp 24)], _, _, _, none⟩) rfl (fun K hK => ?_) AllReadyH.nil))
    focus
      ((first | refine step_load1 hO 3 rfl rfl (by rfl) (by rfl) (by simp [go_sem]) rfl ?_ | refine step_load1 hO 4 rfl rfl (by rfl) (by rfl) (by simp [go_sem]) rfl ?_))
      refine hK.out _ _ trivial (fun hS => ?_)
      clear hK K
      try simp only [Act.put, sb, s0, sz]
      refine wpAnyH_ready (rs := [7]) (by kernel_rfl) (by simp) ?_
      refine (AllReadyH.cons (o := ⟨some 25, .buildSlice 22 1 #[(0, .tmp 24)], _, _, _, none⟩) rfl (fun K hK => ?_) AllReadyH.nil)
      (refine stp_buildC hO rfl (by rfl) (by rfl) (built_text _ _) ?_; clear hO; intro b9 w7 hO)
      refine hK.out _ _ trivial (fun hS => ?_)
      clear hK K
      try simp only [Act.put, sb, s0, sz]
      refine wpAnyH_ready (rs := [8]) (by kernel_rfl) (by simp) ?_
      refine (AllReadyH.cons (o := ⟨some 26, .call { callee := .builtin .append, args := #[.tmp 22, .tmp 25], argTypes := #[22, 22] }, _, _, _, none⟩) rfl (fun K hK => ?_) AllReadyH.nil)
      (refine step_appendG hO 5 rfl rfl (by rfl) (by rfl) (by rfl) Tryd.underlying22 info_text (by decide) (m := 1) (news := [.string ⟨bs.toArray⟩]) (reads_pt hO 0 rfl (off := 0) (fun j u hu => by rw [Nat.zero_add, List.getElem?_toArray]; exact hu)) rfl (by simp [Value.oneCell']) (by omega) (by omega) ?_; clear hO; intro an cn w8 hO; simp only [List.set_cons_zero, List.set_cons_succ] at hO)
      refine hK.out _ _ trivial (fun hS => ?_)
      clear hK K
      try simp only [Act.put, sb, s0, sz]
      refine tV 9 ⟨some 27, .nilCheck (.tmp 18), _, _, _, none⟩ hS ?_
      refine tV 10 ⟨some 28, .fieldAddr 76 (.tmp 27) 0, _, _, _, none⟩ hS ?_
      refine wpAnyH_ready (rs := [11]) (by kernel_rfl) (by simp) ?_
      refine (AllReadyH.cons (o := ⟨none, .store 22 (.tmp 28) (.tmp 26), _, _, _, none⟩) rfl (fun K hK => ?_) AllReadyH.nil)
      (refine stp_setC hO 4 rfl rfl (by rfl) (by rfl) (by rfl) Tryd.sizeOf22 rfl rfl (by simp) ?_; clear hO; intro w9 hO; simp only [List.set_cons_zero, List.set_cons_succ] at hO)
      refine hK.out _ _ trivial (fun hS => ?_)
      clear hK K
      try simp only [Act.put, sb, s0, sz]
      refine wpAnyH_done (by kernel_rfl) ?_ _
    rotate_right
    focus
      (refine stp_buildC hO rfl (by rfl) (by rfl) (built_text _ _) ?_; clear hO; intro b9 w7 hO)
      refine hK.out _ _ trivial (fun hS => ?_)
      clear hK K
      try simp only [Act.put, sb, s0, sz]
      refine wpAnyH_ready (rs := [4]) (by kernel_rfl) (by simp) ?_
      refine (AllReadyH.cons (o := ⟨some 22, .load 22 (.tmp 21), _, _, _, none⟩) rfl (fun K hK => ?_) AllReadyH.nil)
      ((first | refine step_load1 hO 3 rfl rfl (by rfl) (by rfl) (by simp [go_sem]) rfl ?_ | refine step_load1 hO 4 rfl rfl (by rfl) (by rfl) (by simp [go_sem]) rfl ?_))
      refine hK.out _ _ trivial (fun hS => ?_)
      clear hK K
      try simp only [Act.put, sb, s0, sz]
      refine wpAnyH_ready (rs := [8]) (by kernel_rfl) (by simp) ?_
      refine (AllReadyH.cons (o := ⟨some 26, .call { callee := .builtin .append, args := #[.tmp 22, .tmp 25], argTypes := #[22, 22] }, _, _, _, none⟩) rfl (fun K hK => ?_) AllReadyH.nil)
      (refine step_appendG hO 5 rfl rfl (by rfl) (by rfl) (by rfl) Tryd.underlying22 info_text (by decide) (m := 1) (news := [.string ⟨bs.toArray⟩]) (reads_pt hO 0 rfl (off := 0) (fun j u hu => by rw [Nat.zero_add, List.getElem?_toArray]; exact hu)) rfl (by simp [Value.oneCell']) (by omega) (by omega) ?_; clear hO; intro an cn w8 hO; simp only [List.set_cons_zero, List.set_cons_succ] at hO)
      refine hK.out _ _ trivial (fun hS => ?_)
      clear hK K
      try simp only [Act.put, sb, s0, sz]
      refine tV 9 ⟨some 27, .nilCheck (.tmp 18), _, _, _, none⟩ hS ?_
      refine tV 10 ⟨some 28, .fieldAddr 76 (.tmp 27) 0, _, _, _, none⟩ hS ?_
      refine wpAnyH_ready (rs := [11]) (by kernel_rfl) (by simp) ?_
      refine (AllReadyH.cons (o := ⟨none, .store 22 (.tmp 28) (.tmp 26), _, _, _, none⟩) rfl (fun K hK => ?_) AllReadyH.nil)
      (refine stp_setC hO 4 rfl rfl (by rfl) (by rfl) (by rfl) Tryd.sizeOf22 rfl rfl (by simp) ?_; clear hO; intro w9 hO; simp only [List.set_cons_zero, List.set_cons_succ] at hO)
      refine hK.out _ _ trivial (fun hS => ?_)
      clear hK K
      try simp only [Act.put, sb, s0, sz]
      refine wpAnyH_done (by kernel_rfl) ?_ _
  all_goals
    clear hS hE ho
    have hE := hO
    clear hO
    go_wp2
    have hO := hE.drew
    have hB := Hbuild.out
    refine wp_region_held_drew (S := (fun w' => ((Instr.loadAt 49 (.pointer (some ⟨b3, 0, none⟩))).run Tryd.prog w' = .ok (.agg [.int .u8 u.toNat, .string ⟨data.toArray⟩, .slice ao ks.length c].toArray) w'))) (by kernel_rfl) (atWm hO (by repeat (first | exact List.Mem.head _ | refine List.Mem.tail _ ?_)) Tryd.isAgg49 Tryd.sizeOf49 rfl) (fun hS => ?_)
    refine tV 0 ⟨some 29, .move (.tmp 5), _, _, _, none⟩ hS ?_
    refine tL 2 ⟨some 31, .load 49 (.tmp 3), _, _, _, none⟩ hS ?_
    refine tL 5 ⟨some 34, .load 49 (.tmp 3), _, _, _, none⟩ hS ?_
    refine wpAnyH_ready (rs := [1]) (by kernel_rfl) (by simp) ?_
    refine (AllReadyH.cons (o := ⟨some 30, .call { callee := .value (.func 19), args := #[.tmp 29], argTypes := #[52] }, _, _, _, none⟩) rfl (fun K hK => ?_) AllReadyH.nil)
    (go_simp; refine (HS.out _ _ ab cb hcb sfx (fun w h => reads_row h 1 rfl) hO).mono ?_; clear hO; rintro e w5 ⟨v, h1, h2, hO⟩; cases h1; cases h2)
    refine hK.out _ _ (atWm hO (by repeat (first | exact List.Mem.head _ | refine List.Mem.tail _ ?_)) Tryd.isAgg49 Tryd.sizeOf49 rfl) (fun hS => ?_)
    clear hK K
    try simp only [Act.put, sb, s0, sz]
    refine wpAnyH_ready (rs := [3]) (by kernel_rfl) (by simp) ?_
    refine (AllReadyH.cons (o := ⟨some 32, .call { callee := .value (.func 17), args := #[.tmp 31], argTypes := #[49] }, _, _, _, none⟩) rfl (fun K hK => ?_) AllReadyH.nil)
    (go_simp; refine (HH.out _ _ hO sfx).mono ?_; clear hO; rintro e w5 ⟨v, h1, h2, hO⟩; cases h1; cases h2)
    refine hK.out _ _ (atWm hO (by repeat (first | exact List.Mem.head _ | refine List.Mem.tail _ ?_)) Tryd.isAgg49 Tryd.sizeOf49 rfl) (fun hS => ?_)
    clear hK K
    try simp only [Act.put, sb, s0, sz]
    refine tV 4 ⟨some 33, .convert 3 5 (.tmp 32), _, _, _, none⟩ hS ?_
    refine wpAnyH_ready (rs := [6]) (by kernel_rfl) (by simp) ?_
    refine (AllReadyH.cons (o := ⟨some 35, .call { callee := .value (.func 18), args := #[.tmp 34], argTypes := #[49] }, _, _, _, none⟩) rfl (fun K hK => ?_) AllReadyH.nil)
    (go_simp; refine (HZ.out _ _ hO sfx).mono ?_; clear hO; rintro e w5 ⟨v, h1, h2, hO⟩; cases h1; cases h2)
    refine hK.out _ _ (atWm hO (by repeat (first | exact List.Mem.head _ | refine List.Mem.tail _ ?_)) Tryd.isAgg49 Tryd.sizeOf49 rfl) (fun hS => ?_)
    clear hK K
    try simp only [Act.put, sb, s0, sz]
    refine tV 7 ⟨some 36, .convert 58 53 (.tmp 35), _, _, _, none⟩ hS ?_
    refine tV 8 ⟨some 37, .build 55 #[(2, .tmp 30), (3, .tmp 33), (4, .tmp 36)], _, _, _, none⟩ hS ?_
    refine wpAnyH_ready (rs := [9]) (by kernel_rfl) (by simp) ?_
    refine (AllReadyH.cons (o := ⟨none, .store 55 (.tmp 4) (.tmp 37), _, _, _, none⟩) rfl (fun K hK => ?_) AllReadyH.nil)
    (refine step_storeW hO 2 rfl rfl (by rfl) (by rfl) (xs := kx) (by rfl) Tryd.sizeOf55 Hlen.out Hone.out Hq.out ?_; clear hO; intro w6 hO; simp only [List.set_cons_zero, List.set_cons_succ] at hO)
    refine hK.out _ _ (atWm hO (by repeat (first | exact List.Mem.head _ | refine List.Mem.tail _ ?_)) Tryd.isAgg49 Tryd.sizeOf49 rfl) (fun hS => ?_)
    clear hK K
    try simp only [Act.put, sb, s0, sz]
    refine wpAnyH_done (by kernel_rfl) ?_ _
    all_goals
      clear hS hE
      have hE := hO
      clear hO
      go_wp2
      refine bodyPost_ret (results_cellA rfl hE 2 rfl rfl Tryd.isAgg55 Tryd.sizeOf55 Hlen.out) rfl ?_
      have hF := hE.tail.tail.tail.tail
      have q1 : (out ++ [bs]).length = out.length + 1 := by simp
      have q2 : (out ++ [bs]).map (fun s => Value.string ⟨s.toArray⟩) = out.map (fun s => Value.string ⟨s.toArray⟩) ++ [.string ⟨bs.toArray⟩] := by simp
      refine ⟨_, rfl, rfl, Ent.pack (f := fun z : Option Addr × Nat => [pt bx (.cells #[.slice z.1 (out ++ [bs]).length z.2, .bool false] 76), rowT z.1 z.2 (out ++ [bs])]) (an, cn) ?_⟩
      simp only [rowT, q1, q2]
      exact hF
end Go.Proofs.YtehfbokkcamliaaDoor
namespace Go.Proofs.YtehfbokkcamliaaDoor
open Go.RowKit Go.SL

theorem wide_fn (f : FuncId) : Fence.wide.fn f = True := rfl
theorem wide_depth : Fence.wide.depth = none := rfl
attribute [local go_sem] Oper.semAt_some wide_fn wide_depth

theorem cutAt_z (size : Nat) (ao : Option Addr) (c : Nat) : cutAt size ao c 0 = ao := by
  unfold cutAt
  split
  · rfl
  · cases ao with
    | none => rfl
    | some a => simp [Addr.add]
/-- what is left behind so many pieces; the pieces themselves -/
def restA (sz m : Nat) (ao : Option Addr) (c : Nat) : Nat → Option Addr
  | 0 => ao
  | k + 1 => cutAt sz (restA sz m ao c k) (c - m * k) m
def restV (sz m : Nat) (ao : Option Addr) (n c k : Nat) : Value := .slice (restA sz m ao c k) (n - m * k) (c - m * k)
def pcV (sz m : Nat) (ao : Option Addr) (n c k : Nat) : Value := if m < n - m * k then .slice (restA sz m ao c k) m (c - m * k) else restV sz m ao n c k
def pcVs (sz m : Nat) (ao : Option Addr) (n c : Nat) : List Value := (List.range (pcN m n)).map (pcV sz m ao n c)
theorem pcVs_len (sz m : Nat) (ao : Option Addr) (n c : Nat) : (pcVs sz m ao n c).length = pcN m n := by simp [pcVs]
theorem pcVs_snoc (sz m : Nat) (ao : Option Addr) (n c k : Nat) : (List.range k).map (pcV sz m ao n c) ++ [pcV sz m ao n c k] = (List.range (k + 1)).map (pcV sz m ao n c) := by
  rw [List.range_succ, List.map_append]; rfl
theorem pcVs_pre (sz m : Nat) (ao : Option Addr) (n c : Nat) {k : Nat} (h : k ≤ pcN m n) : (List.range k).map (pcV sz m ao n c) <+: pcVs sz m ao n c := by
  rw [pcVs]
  obtain ⟨d, hd⟩ : ∃ d, pcN m n = k + d := ⟨pcN m n - k, by omega⟩
  rw [hd, List.range_add, List.map_append]
  exact List.prefix_append _ _
/-- a prefix of the pieces, and the one behind it -/
theorem pcVs_at {sz m : Nat} {ao : Option Addr} {n c : Nat} {pre : List Value} {x : Value} (h : pre ++ [x] <+: pcVs sz m ao n c) : pre.length < pcN m n ∧ x = pcV sz m ao n c pre.length := by
  have hl := h.length_le
  rw [List.length_append, pcVs_len, List.length_singleton] at hl
  refine ⟨by omega, ?_⟩
  have h1 := h.getElem (i := pre.length) (by simp)
  rw [List.getElem_append_right (Nat.le_refl _)] at h1
  simpa [pcVs] using h1
theorem reads_rest {w : World} {sz m : Nat} {ao : Option Addr} {n c : Nat} {xs : List Value} (hr : reads (.slice ao n c) n xs w) (hxs : xs.length = n * sz) (hc : n ≤ c) :
    ∀ k, m * k ≤ n → reads (restV sz m ao n c k) (n - m * k) (xs.drop (m * k * sz)) w
  | 0, _ => by simpa [restV, restA] using hr
  | k + 1, h => by
    have hk : m * k + m ≤ n := by rw [Nat.mul_succ] at h; exact h
    have ih := reads_rest (m := m) hr hxs hc k (by omega)
    have hl : (xs.drop (m * k * sz)).length = (n - m * k) * sz := by rw [List.length_drop, hxs, Nat.sub_mul]
    have h2 := reads_cut ih hl (l := m) (h := n - m * k) (by omega) (Nat.le_refl _) (by omega)
    have e1 : n - m * (k + 1) = n - m * k - m := by rw [Nat.mul_succ]; omega
    have h : m * (k + 1) ≤ n := h
    have e2 : c - m * (k + 1) = c - m * k - m := by rw [Nat.mul_succ]; omega
    have e3 : ((xs.drop (m * k * sz)).drop (m * sz)).take ((n - m * k - m) * sz) = xs.drop (m * (k + 1) * sz) := by
      rw [List.drop_drop, List.take_of_length_le]
      · congr 1; rw [Nat.mul_succ, Nat.add_mul]
      · rw [List.length_drop, hxs, ← Nat.add_mul, ← Nat.sub_mul]
        exact Nat.mul_le_mul_right _ (by omega)
    rw [e3] at h2
    rw [restV, e1, e2]
    exact h2
theorem reads_pc {w : World} {sz m : Nat} (hm : 0 < m) {ao : Option Addr} {n c : Nat} {xs : List Value} (hr : reads (.slice ao n c) n xs w) (hxs : xs.length = n * sz) (hc : n ≤ c) {k : Nat} (hk : k < pcN m n) :
    reads (pcV sz m ao n c k) (min m (n - m * k)) ((xs.drop (m * k * sz)).take (m * sz)) w := by
  have h1 := reads_rest (m := m) hr hxs hc k (pc_in hm hk)
  have hl : (xs.drop (m * k * sz)).length = (n - m * k) * sz := by rw [List.length_drop, hxs, Nat.sub_mul]
  unfold pcV
  split
  · next hlt =>
    have h2 := reads_cut h1 hl (l := 0) (h := m) (by omega) (by omega) (by omega)
    rw [Nat.zero_mul, List.drop_zero, Nat.sub_zero, Nat.sub_zero, cutAt_z] at h2
    rw [Nat.min_eq_left (by omega)]
    exact h2
  · next hge =>
    rw [Nat.min_eq_right (by omega), List.take_of_length_le]
    · exact h1
    · rw [hl]; exact Nat.mul_le_mul_right _ (by omega)
def sliceLeft (b : Nat) (w : World) : Nat := match w.cell? ⟨b, 0, none⟩ with
  | some (.slice _ n _) => n
  | _ => 0
theorem sliceLeft_eq {b : Nat} {w : World} {ao : Option Addr} {n c : Nat} (h : w.cell? ⟨b, 0, none⟩ = some (.slice ao n c)) : sliceLeft b w = n := by
  unfold sliceLeft
  rw [h]
theorem pcV_form {sz m : Nat} {ao : Option Addr} {n c k : Nat} (hc : n ≤ c) : ∃ a' c', pcV sz m ao n c k = .slice a' (min m (n - m * k)) c' ∧ min m (n - m * k) ≤ c' := by
  unfold pcV restV
  split
  · next h => exact ⟨_, _, by rw [Nat.min_eq_left (by omega)], by omega⟩
  · next h => exact ⟨_, _, by rw [Nat.min_eq_right (by omega)], by omega⟩

def pcStB (m : Nat) (ao : Option Addr) (n c bl bm : Nat) (pre : List Value) : List HProp :=
  [pt bl (.cells #[restV 1 m ao n c pre.length] 52), pt bm (.cells #[.int .i64 m] 3)]
theorem piecesB (m : Nat) (ao : Option Addr) (n c : Nat) {l : List HProp} {w : World} (hE : Ent l w) :
    Calls Tryd.prog 85 #[.slice ao n c, .int .i64 m] w (Ret fun v w' => ∃ bl bm, v = .func (.func 108) #[] #[.pointer (some ⟨bl, 0, none⟩), .pointer (some ⟨bm, 0, none⟩)] ∧ Ent (pcStB m ao n c bl bm [] ++ l) w') := by
  go_enter Tryd.func85, Tryd.ntmps85
  go_wp2_with (first
    | go_skip
    | ((with_reducible (show Go.wpList _ _ _ (Go.Oper.mk _ (.box _ (.tmp 0)) _ _ _ _ :: _) _ _)); refine wpl_box hE rfl rfl rfl ?_; clear hE; intro b0 w hE1)
    | ((with_reducible (show Go.wpList _ _ _ (Go.Oper.mk _ (.box _ (.tmp 1)) _ _ _ _ :: _) _ _)); refine wpl_box hE1 rfl rfl rfl ?_; clear hE1; intro b1 w hE2))
  go_ret
  refine ⟨_, rfl, b0, b1, rfl, ?_⟩
  exact hE2.front 1 rfl
set_option maxRecDepth 100000 in
set_option maxHeartbeats 4000000 in
theorem pieces_iterB (m : Nat) (hm : 0 < m) (hm2 : m ≤ 1000) (ao : Option Addr) (n c : Nat) (hc : n ≤ c) (bl bm : Nat) :
    SeqSL Tryd.prog 108 #[.pointer (some ⟨bl, 0, none⟩), .pointer (some ⟨bm, 0, none⟩)] (fun v : Value => #[v]) (pcVs 1 m ao n c) (pcStB m ao n c bl bm) := by
  intro lp J Jx W hW hY
  refine callsIn_of_wp Tryd.func108 rfl trivial ?_ rfl
  simp only [Tryd.ntmps108, List.size_toArray, List.length_cons, List.length_nil, Nat.reduceAdd, Nat.reduceSub, Array.replicate_succ, Array.replicate_zero, List.push_toArray, List.append_toArray, List.nil_append, List.cons_append]
  gi_wp2
  gi_loopw [4] (fun _ wr => ∃ k, k < pcN m n ∧ Ent (pcStB m ao n c bl bm ((List.range k).map (pcV 1 m ao n c)) ++ J ((List.range k).map (pcV 1 m ao n c))) wr) (fun _ wr => sliceLeft bl wr)
  case atStart => exact ⟨0, pcN_pos _ _, hW⟩
  case round =>
    obtain ⟨k, hk, hE⟩ := hrel
    have hpre := pcVs_pre 1 m ao n c (k := k + 1) hk
    rw [← pcVs_snoc] at hpre
    have hlen : ((List.range k).map (pcV 1 m ao n c)).length = k := by simp
    have hlen2 : ((List.range (k + 1)).map (pcV 1 m ao n c)).length = k + 1 := by simp
    have hin := pc_in hm hk
    have Hnext := SL.hid (show ∀ h : m < n - m * k, restV 1 m ao n c (k + 1) = .slice (cutAt 1 (restA 1 m ao c k) (c - m * k) m) (n - m * k - m) (c - m * k - m) from fun _ => by
      rw [restV, restA, Nat.mul_succ]; congr 1 <;> omega)
    obtain ⟨fn, tmps, assign, body, hy, hR⟩ := hY _ _ wr hpre hE
    clear hY
    by_cases hlt : m < n - m * k
    · have hmore := (pc_more hm hk).2 hlt
      have hv : pcV 1 m ao n c k = .slice (restA 1 m ao c k) m (c - m * k) := by rw [pcV, if_pos hlt]
      have hd : decide (m < n - m * k) = true := decide_eq_true hlt
      have k0 : wr.cell? ⟨bl, 0, none⟩ = some (.slice (restA 1 m ao c k) (n - m * k) (c - m * k)) := by have := hE.cell 0 rfl 0; rw [hlen] at this; exact this
      have k1 : wr.cell? ⟨bm, 0, none⟩ = some (.int .i64 m) := hE.cell 1 rfl 0
      have HN := SL.hid (Hnext.out hlt)
      have Hm := SL.hid hmore
      rw [hv] at hy
      have Hh := SL.hid (show m ≤ c - m * k by omega)
      have Hl := SL.hid (show m ≤ n - m * k by omega)
      clear Hnext hmore hin hv hlt hc hk
      have Hrv := SL.hid (show restV 1 m ao n c k = .slice (restA 1 m ao c k) (n - m * k) (c - m * k) from rfl)
      generalize restA 1 m ao c k = ra at *
      generalize hnn : n - m * k = nn at *
      generalize c - m * k = cc at *
      clear hnn
      gi_wp2_with (first
        | (refine wplIn_one rfl rfl rfl (by intro c h; cases h) (by rintro ⟨_, _, h⟩; exact h) ?_; (with_reducible (show Go.wpList _ _ _ (Go.Oper.mk _ (.slice _ _ none (some _) none) _ _ _ _ :: _) _ _)); refine wpl_cut_hi rfl rfl rfl rfl m rfl Tryd.underlying52 Tryd.sizeOf5 Hh.out ?_; refine wplIn_nil ?_))
      refine hR.mono ?_
      rintro e W3 (⟨rfl, hE3⟩ | ⟨rfl, hE3⟩)
      · have j0 : W3.cell? ⟨bl, 0, none⟩ = some (.slice ra nn cc) := by have := hE3.cell 0 rfl 0; rw [hlen, Hrv.out] at this; exact this
        have j1 : W3.cell? ⟨bm, 0, none⟩ = some (.int .i64 m) := hE3.cell 1 rfl 0
        have jf : W3.frozen? ⟨bl, 0, none⟩ = false := hE3.frozen 0 rfl 0
        have Hs := SL.hid (sliceLeft_eq k0)
        clear k0 k1 hE
        gi_wp2_with (first
          | (refine wplIn_one rfl rfl rfl (by intro c h; cases h) (by rintro ⟨_, _, h⟩; exact h) ?_; (with_reducible (show Go.wpList _ _ _ (Go.Oper.mk _ (.slice _ _ (some _) none none) _ _ _ _ :: _) _ _)); refine wpl_cut_lo rfl rfl rfl rfl m rfl Tryd.underlying52 Tryd.sizeOf5 Hl.out ?_; refine wplIn_nil ?_))
        go_roundw
        case rel =>
          have h := hE3.setCell 0 rfl 0 (.slice (cutAt 1 ra cc m) (nn - m) (cc - m))
          rw [pcVs_snoc] at h
          refine ⟨k + 1, Hm.out, ?_⟩
          rw [pcStB, hlen2, HN.out]
          simp only [cutAt, Nat.mul_one] at h ⊢
          exact h
        case measure =>
          have h := hE3.setCell 0 rfl 0 (.slice (cutAt 1 ra cc m) (nn - m) (cc - m))
          simp only [cutAt, Nat.mul_one] at h
          rw [Hs.out, sliceLeft_eq (h.cell 0 rfl 0)]
          have := Hl.out
          omega
      · clear k0 k1
        gi_wp2
        refine bodyPost_ret (results_none rfl _ _ _) rfl ?_
        exact ⟨⟨_, rfl⟩, .inr ⟨_, hpre, hE3⟩⟩
    · have hlast : k + 1 = pcN m n := Classical.byContradiction fun h => hlt ((pc_more hm hk).1 (by omega))
      have hv : pcV 1 m ao n c k = .slice (restA 1 m ao c k) (n - m * k) (c - m * k) := by rw [pcV, if_neg hlt]; rfl
      have hd : decide (m < n - m * k) = false := decide_eq_false hlt
      have k0 : wr.cell? ⟨bl, 0, none⟩ = some (.slice (restA 1 m ao c k) (n - m * k) (c - m * k)) := by have := hE.cell 0 rfl 0; rw [hlen] at this; exact this
      have k1 : wr.cell? ⟨bm, 0, none⟩ = some (.int .i64 m) := hE.cell 1 rfl 0
      have hJ := SL.hid (show pcVs 1 m ao n c = (List.range k).map (pcV 1 m ao n c) ++ [pcV 1 m ao n c k] by rw [pcVs_snoc, pcVs, hlast])
      rw [hv] at hy
      clear Hnext hin hv hlt hc hk
      generalize restA 1 m ao c k = ra at *
      generalize hnn : n - m * k = nn at *
      generalize c - m * k = cc at *
      clear hnn
      gi_wp2
      refine hR.mono ?_
      rintro e W3 (⟨rfl, hE3⟩ | ⟨rfl, hE3⟩)
      · gi_wp2
        go_end0
        exact ⟨⟨_, rfl⟩, .inl (by rw [hJ.out]; exact hE3.drop)⟩
      · gi_wp2
        go_end0
        exact ⟨⟨_, rfl⟩, .inr ⟨_, by rw [hJ.out]; exact List.prefix_rfl, hE3⟩⟩

def pcStK (m : Nat) (ao : Option Addr) (n c bl bm : Nat) (pre : List Value) : List HProp :=
  [pt bl (.cells #[restV 36 m ao n c pre.length] 47), pt bm (.cells #[.int .i64 m] 3)]
theorem piecesK (m : Nat) (ao : Option Addr) (n c : Nat) {l : List HProp} {w : World} (hE : Ent l w) :
    Calls Tryd.prog 86 #[.slice ao n c, .int .i64 m] w (Ret fun v w' => ∃ bl bm, v = .func (.func 109) #[] #[.pointer (some ⟨bl, 0, none⟩), .pointer (some ⟨bm, 0, none⟩)] ∧ Ent (pcStK m ao n c bl bm [] ++ l) w') := by
  go_enter Tryd.func86, Tryd.ntmps86
  go_wp2_with (first
    | go_skip
    | ((with_reducible (show Go.wpList _ _ _ (Go.Oper.mk _ (.box _ (.tmp 0)) _ _ _ _ :: _) _ _)); refine wpl_box hE rfl rfl rfl ?_; clear hE; intro b0 w hE1)
    | ((with_reducible (show Go.wpList _ _ _ (Go.Oper.mk _ (.box _ (.tmp 1)) _ _ _ _ :: _) _ _)); refine wpl_box hE1 rfl rfl rfl ?_; clear hE1; intro b1 w hE2))
  go_ret
  refine ⟨_, rfl, b0, b1, rfl, ?_⟩
  exact hE2.front 1 rfl
set_option maxRecDepth 100000 in
set_option maxHeartbeats 4000000 in
theorem pieces_iterK (m : Nat) (hm : 0 < m) (hm2 : m ≤ 1000) (ao : Option Addr) (n c : Nat) (hc : n ≤ c) (bl bm : Nat) :
    SeqSL Tryd.prog 109 #[.pointer (some ⟨bl, 0, none⟩), .pointer (some ⟨bm, 0, none⟩)] (fun v : Value => #[v]) (pcVs 36 m ao n c) (pcStK m ao n c bl bm) := by
  intro lp J Jx W hW hY
  refine callsIn_of_wp Tryd.func109 rfl trivial ?_ rfl
  simp only [Tryd.ntmps109, List.size_toArray, List.length_cons, List.length_nil, Nat.reduceAdd, Nat.reduceSub, Array.replicate_succ, Array.replicate_zero, List.push_toArray, List.append_toArray, List.nil_append, List.cons_append]
  gi_wp2
  gi_loopw [4] (fun _ wr => ∃ k, k < pcN m n ∧ Ent (pcStK m ao n c bl bm ((List.range k).map (pcV 36 m ao n c)) ++ J ((List.range k).map (pcV 36 m ao n c))) wr) (fun _ wr => sliceLeft bl wr)
  case atStart => exact ⟨0, pcN_pos _ _, hW⟩
  case round =>
    obtain ⟨k, hk, hE⟩ := hrel
    have hpre := pcVs_pre 36 m ao n c (k := k + 1) hk
    rw [← pcVs_snoc] at hpre
    have hlen : ((List.range k).map (pcV 36 m ao n c)).length = k := by simp
    have hlen2 : ((List.range (k + 1)).map (pcV 36 m ao n c)).length = k + 1 := by simp
    have hin := pc_in hm hk
    have Hnext := SL.hid (show ∀ h : m < n - m * k, restV 36 m ao n c (k + 1) = .slice (cutAt 36 (restA 36 m ao c k) (c - m * k) m) (n - m * k - m) (c - m * k - m) from fun _ => by
      rw [restV, restA, Nat.mul_succ]; congr 1 <;> omega)
    obtain ⟨fn, tmps, assign, body, hy, hR⟩ := hY _ _ wr hpre hE
    clear hY
    by_cases hlt : m < n - m * k
    · have hmore := (pc_more hm hk).2 hlt
      have hv : pcV 36 m ao n c k = .slice (restA 36 m ao c k) m (c - m * k) := by rw [pcV, if_pos hlt]
      have hd : decide (m < n - m * k) = true := decide_eq_true hlt
      have k0 : wr.cell? ⟨bl, 0, none⟩ = some (.slice (restA 36 m ao c k) (n - m * k) (c - m * k)) := by have := hE.cell 0 rfl 0; rw [hlen] at this; exact this
      have k1 : wr.cell? ⟨bm, 0, none⟩ = some (.int .i64 m) := hE.cell 1 rfl 0
      have HN := SL.hid (Hnext.out hlt)
      have Hm := SL.hid hmore
      rw [hv] at hy
      have Hh := SL.hid (show m ≤ c - m * k by omega)
      have Hl := SL.hid (show m ≤ n - m * k by omega)
      clear Hnext hmore hin hv hlt hc hk
      have Hrv := SL.hid (show restV 36 m ao n c k = .slice (restA 36 m ao c k) (n - m * k) (c - m * k) from rfl)
      generalize restA 36 m ao c k = ra at *
      generalize hnn : n - m * k = nn at *
      generalize c - m * k = cc at *
      clear hnn
      gi_wp2_with (first
        | (refine wplIn_one rfl rfl rfl (by intro c h; cases h) (by rintro ⟨_, _, h⟩; exact h) ?_; (with_reducible (show Go.wpList _ _ _ (Go.Oper.mk _ (.slice _ _ none (some _) none) _ _ _ _ :: _) _ _)); refine wpl_cut_hi rfl rfl rfl rfl m rfl Tryd.underlying47 Tryd.sizeOf55 Hh.out ?_; refine wplIn_nil ?_))
      refine hR.mono ?_
      rintro e W3 (⟨rfl, hE3⟩ | ⟨rfl, hE3⟩)
      · have j0 : W3.cell? ⟨bl, 0, none⟩ = some (.slice ra nn cc) := by have := hE3.cell 0 rfl 0; rw [hlen, Hrv.out] at this; exact this
        have j1 : W3.cell? ⟨bm, 0, none⟩ = some (.int .i64 m) := hE3.cell 1 rfl 0
        have jf : W3.frozen? ⟨bl, 0, none⟩ = false := hE3.frozen 0 rfl 0
        have Hs := SL.hid (sliceLeft_eq k0)
        clear k0 k1 hE
        gi_wp2_with (first
          | (refine wplIn_one rfl rfl rfl (by intro c h; cases h) (by rintro ⟨_, _, h⟩; exact h) ?_; (with_reducible (show Go.wpList _ _ _ (Go.Oper.mk _ (.slice _ _ (some _) none none) _ _ _ _ :: _) _ _)); refine wpl_cut_lo rfl rfl rfl rfl m rfl Tryd.underlying47 Tryd.sizeOf55 Hl.out ?_; refine wplIn_nil ?_))
        go_roundw
        case rel =>
          have h := hE3.setCell 0 rfl 0 (.slice (cutAt 36 ra cc m) (nn - m) (cc - m))
          rw [pcVs_snoc] at h
          refine ⟨k + 1, Hm.out, ?_⟩
          rw [pcStK, hlen2, HN.out]
          simp only [cutAt, Nat.mul_one] at h ⊢
          exact h
        case measure =>
          have h := hE3.setCell 0 rfl 0 (.slice (cutAt 36 ra cc m) (nn - m) (cc - m))
          simp only [cutAt, Nat.mul_one] at h
          rw [Hs.out, sliceLeft_eq (h.cell 0 rfl 0)]
          have := Hl.out
          omega
      · clear k0 k1
        gi_wp2
        refine bodyPost_ret (results_none rfl _ _ _) rfl ?_
        exact ⟨⟨_, rfl⟩, .inr ⟨_, hpre, hE3⟩⟩
    · have hlast : k + 1 = pcN m n := Classical.byContradiction fun h => hlt ((pc_more hm hk).1 (by omega))
      have hv : pcV 36 m ao n c k = .slice (restA 36 m ao c k) (n - m * k) (c - m * k) := by rw [pcV, if_neg hlt]; rfl
      have hd : decide (m < n - m * k) = false := decide_eq_false hlt
      have k0 : wr.cell? ⟨bl, 0, none⟩ = some (.slice (restA 36 m ao c k) (n - m * k) (c - m * k)) := by have := hE.cell 0 rfl 0; rw [hlen] at this; exact this
      have k1 : wr.cell? ⟨bm, 0, none⟩ = some (.int .i64 m) := hE.cell 1 rfl 0
      have hJ := SL.hid (show pcVs 36 m ao n c = (List.range k).map (pcV 36 m ao n c) ++ [pcV 36 m ao n c k] by rw [pcVs_snoc, pcVs, hlast])
      rw [hv] at hy
      clear Hnext hin hv hlt hc hk
      generalize restA 36 m ao c k = ra at *
      generalize hnn : n - m * k = nn at *
      generalize c - m * k = cc at *
      clear hnn
      gi_wp2
      refine hR.mono ?_
      rintro e W3 (⟨rfl, hE3⟩ | ⟨rfl, hE3⟩)
      · gi_wp2
        go_end0
        exact ⟨⟨_, rfl⟩, .inl (by rw [hJ.out]; exact hE3.drop)⟩
      · gi_wp2
        go_end0
        exact ⟨⟨_, rfl⟩, .inr ⟨_, by rw [hJ.out]; exact List.prefix_rfl, hE3⟩⟩
end Go.Proofs.YtehfbokkcamliaaDoor
namespace Go.SL
/-- the mark of a range over a function -/
def mkD (D : Nat) : Deferred := { target := .collected D, args := #[] }
def ptD (D : Nat) : HProp := pt D (.deferred (some []))
theorem leaves_marks {P : Program} {fn : Func} {tmps : Array Value} {R : Ending → World → Prop} {l : List HProp} : ∀ (Ds : List Nat) (w : World), Ent (Ds.map ptD ++ l) w → (∀ w', Ent l w' → ∃ v, (results fn tmps).run P w' = .ok v w' ∧ R (.returned v) w') →
    LeavesInM Fence.wide 0 P fn tmps R (Ds.map mkD) .returning w
  | [], w, hE, h => h w hE
  | D :: Ds, w, hE, h => by
    refine ⟨by simp, .inl ⟨_, _, rfl, run_takeDeferred hE.head, ?_⟩⟩
    exact leaves_marks Ds _ (hE.setMap 0 (ob' := .deferred none) rfl).tail h
theorem post_marks {P : Program} {fn : Func} {R : Ending → World → Prop} {a : Act} {w : World} {Ds : List Nat} {l : List HProp} (hd : a.defers = Ds.map mkD) (hE : Ent (Ds.map ptD ++ l) w)
    (h : ∀ w', Ent l w' → ∃ v, (results fn a.tmps).run P w' = .ok v w' ∧ R (.returned v) w') : bodyPostM Fence.wide 0 P fn R .ret a w := by
  show LeavesInM Fence.wide 0 P fn a.tmps R a.defers .returning w
  rw [hd]
  exact leaves_marks Ds w hE h
end Go.SL
namespace Go.SL
open Go.RowKit
section
variable {P : Program}
theorem wpIn_rangeSLB {α β : Type} {g : Operand} {ps : Array Tmp} {assign body : Code} {Q : Exit → Act → World → Prop} {a : Act} {w : World} {gf : Nat} {lb : Array Value}
    (hg : a.eval g = .func (.func gf) #[] lb) (eg : ∀ args w, (callFunc gf args).run P w = .ok (.enter gf args) w)
    {encs : α → Array Value} {xs : List α} {st : List α → List HProp} (hseq : SeqSL P gf lb encs xs st) (hps : ∀ x, (encs x).size = ps.size)
    (I : List α → List HProp) (Ix : Code → List α → List HProp) (hE : Ent (st [] ++ I []) w) (a₁ : α → β → Act) (B : α → β → List HProp)
    (hassign : ∀ (lp : Nat) (x : α) (W : World) (L : List HProp) (K : Act → World → Prop), Ent L W → (∀ y W', Ent (B x y ++ L) W' → K (a₁ x y) W') →
      assign.wpIn (Fence.wide.inRound lp) 0 P (Exit.then K (fun _ _ _ => False)) { tmps := (ps.zip (encs x)).foldl (fun t (p, v) => t.setIfInBounds p v) a.tmps, defers := [] } W)
    (hbody : ∀ (lp : Nat) (pre : List α) (x : α) (y : β) (W : World) (L : List HProp), pre ++ [x] <+: xs → Ent (B x y ++ (I pre ++ L)) W → body.wpIn (Fence.wide.inRound lp) 0 P (roundSL I Ix L (pre ++ [x])) (a₁ x y) W)
    (hdone : ∀ (D : Nat) (W : World), Ent (pt D (.deferred (some [])) :: I xs) W → Q .normal { a with defers := { target := .collected D, args := #[] } :: a.defers } W)
    (hstop : ∀ (D : Nat) (c : Code) (pre : List α) (W : World), pre <+: xs → Ent (pt D (.deferred (some [])) :: Ix c pre) W → c.wpIn Fence.wide 0 P Q { a with defers := { target := .collected D, args := #[] } :: a.defers } W) :
    (Code.rangeFunc g ps assign body).wpIn Fence.wide 0 P Q a w := by
  refine wpIn_rangeFunc ?_
  intro fn hfn
  obtain ⟨d, hd⟩ : ∃ d, d = w.heap.size := ⟨_, rfl⟩
  obtain ⟨rc, hrc⟩ : ∃ rc : LoopState → Option Code → Loop, rc = fun s p => { state := s, pending := p, fn, tmps := a.tmps, params := ps, assign, body, defers := d } := ⟨_, rfl⟩
  have h1 : Ent (pt (d + 1) (.loop (rc .ready none)) :: pt d (.deferred (some [])) :: (st [] ++ I [])) ((w.alloc (.deferred (some []))).alloc (.loop (rc .ready none))) := by
    have := (hE.alloc (.deferred (some []))).alloc (.loop (rc .ready none))
    rwa [World.size_alloc, ← hd] at this
  generalize hW1 : (w.alloc (.deferred (some []))).alloc (.loop (rc .ready none)) = W1 at h1
  refine ⟨d + 1, [{ target := .collected d, args := #[] }], W1, { target := .fn (.func gf) lb, args := #[.func (.yield (d + 1)) #[] #[]] }, W1, gf, #[.func (.yield (d + 1)) #[] #[]] ++ lb, W1, ?_, ?_, fun _ _ => trivial, ?_, fun h => (by cases h), ?_⟩
  · rw [← hW1, hrc, hd]; exact run_enterLoop_outer _ _ _ _ _
  · simp only [resolve, hg]
    simp [go_sem]
  · simp [invoke, go_sem, eg]
  · refine (hseq (d + 1) (fun pre => I pre ++ [pt (d + 1) (.loop (rc .ready none)), pt d (.deferred (some []))]) (fun pre => [ex fun c => Ix c pre ++ [pt (d + 1) (.loop (rc .done (some c))), pt d (.deferred (some []))]]) W1 (h1.perm perm_2') ?_).mono ?_
    · rintro pre x W hpre hW
      replace hW := hW.perm perm_2
      have hy := run_yield (P := P) (args := encs x) hW.head (by rw [hrc]; exact hps x)
      rw [hrc] at hy
      refine ⟨fn, _, assign, body, hy, roundIn_of_wpIn trivial (hassign _ x W _ _ hW fun y W' hW' => ?_)⟩
      clear hy
      replace hW := hW'.perm List.perm_middle
      clear hW'
      refine ⟨_, run_beginRound hW.head (by rw [hrc]), ?_⟩
      have hb : Ent (pt (d + 1) (.loop { rc .ready none with state := .busy }) :: (B x y ++ (pt d (.deferred (some [])) :: (st pre ++ I pre)))) (W'.putObj (d + 1) (.loop { rc .ready none with state := .busy })) := hW.setMap 0 rfl
      replace hb := hb.perm (List.perm_middle (l₁ := B x y)).symm
      refine wpIn_mono (hbody _ pre x y _ (pt (d + 1) (.loop { rc .ready none with state := .busy }) :: pt d (.deferred (some [])) :: st pre) hpre (hb.perm (perm_3.symm.append_left _))) ?_
      rintro e a3 W3 hp
      cases e with
      | normal =>
        have h3 : Ent _ W3 := Ent.perm hp perm_3
        refine ⟨_, _, run_endRound none h3.head, .inl ⟨rfl, ?_⟩⟩
        have h4 := h3.setMap 0 (ob' := .loop { { rc .ready none with state := .busy } with state := if (none : Option Code).isNone then .ready else .done, pending := none }) rfl
        rw [hrc] at h4 ⊢
        exact Ent.perm h4 perm_2'
      | ret =>
        have h3 : Ent _ W3 := (Ent.perm hp perm_3)
        refine ⟨_, _, run_endRound (some .ret) h3.head, .inr ⟨rfl, ?_⟩⟩
        have h4 := h3.setMap 0 (ob' := .loop { { rc .ready none with state := .busy } with state := if (some Code.ret).isNone then .ready else .done, pending := some .ret }) rfl
        rw [hrc] at h4 ⊢
        exact Ent.pack (l := []) Code.ret (by rw [List.append_nil]; exact (Ent.perm h4 perm_2').drop)
      | exit id =>
        have h3 : Ent _ W3 := (Ent.perm hp perm_3)
        refine ⟨_, _, run_endRound (some (.exit id)) h3.head, .inr ⟨rfl, ?_⟩⟩
        have h4 := h3.setMap 0 (ob' := .loop { { rc .ready none with state := .busy } with state := if (some (Code.exit id)).isNone then .ready else .done, pending := some (.exit id) }) rfl
        rw [hrc] at h4 ⊢
        exact Ent.pack (l := []) (Code.exit id) (by rw [List.append_nil]; exact (Ent.perm h4 perm_2').drop)
      | goto t => exact hp.elim
      | panic ch => exact hp.elim
      | outgrown => exact hp.elim
    · rintro e W2 ⟨⟨v, rfl⟩, hJ | ⟨pre, hpre, hJ⟩⟩
      · have h3 := Ent.perm hJ (perm_2 (l := []))
        refine ⟨none, _, by have := run_endLoop (P := P) h3.head (by rw [hrc]; simp); rw [hrc] at this; exact this, ?_⟩
        have h4 := h3.setMap 0 (ob' := .loop { rc .ready none with state := .exhausted }) rfl
        rw [hrc] at h4
        exact hdone d _ h4.tail
      · obtain ⟨c, hJ⟩ := hJ.unpack
        rw [List.append_nil] at hJ
        have h3 := Ent.perm hJ (perm_2 (l := []))
        refine ⟨some c, _, by have := run_endLoop (P := P) h3.head (by rw [hrc]; simp); rw [hrc] at this; exact this, ?_⟩
        have h4 := h3.setMap 0 (ob' := .loop { rc .done (some c) with state := .exhausted }) rfl
        rw [hrc] at h4
        exact hstop d c pre _ hpre h4.tail


/-- of a region that only comes to its end -/
def onlyN (K : Act → World → Prop) : Exit → Act → World → Prop
  | .normal, a, w => K a w
  | _, _, _ => False
theorem wp_onlyN {c : Code} {Q : Exit → Act → World → Prop} {a : Act} {w : World} (h : c.wp P (onlyN (fun a w => Q .normal a w)) a w) : c.wp P Q a w :=
  wp_mono h (by
    intro e a w h
    cases e <;> first | exact h | exact h.elim)
theorem onlyN_n {Q : Exit → Act → World → Prop} {a : Act} {w : World} (h : Q .normal a w) : onlyN (fun a w => Q .normal a w) .normal a w := h

/-- an operation carried out in a round, as anywhere -/
theorem opIn_of_op {F : Fence} {n : Nat} {ops : Array Oper} {Q : Exit → Act → World → Prop} {K : Act → World → Prop} {i : Nat} {a : Act} {w : World} (hF : F.fn = fun _ => True) (hdp : F.depth = none) (hal : F.alive = false) (hnd : ∀ o, ops[i]? = some o → ∀ c, o.op ≠ .defer c) (hlo : ¬ ∃ a w, Q .outgrown a w)
    (h : wpOp P ops Q i K a w) : wpOpIn F n P ops Q i K a w := by
  have e1 : Machine.fenced P F = Machine.fenced P Fence.wide := by
    funext m
    simp only [Machine.fenced, hF, hdp, hal, Fence.room, Fence.wide]
  have hCI : ∀ {f args w R}, Calls P f args w R → CallsIn F (n - 1) P f args w R := fun {f args w R} h => by
    refine ⟨by rw [hF]; trivial, fun cs _ => ?_⟩
    obtain ⟨e, w', fr, r, s, x⟩ := (callsIn_wide (n := n - 1)).2 h |>.2 cs (room_wide _)
    exact ⟨e, w', fr, r, by rw [e1]; exact s, x⟩
  unfold wpOp at h
  unfold wpOpIn
  split at h
  · rename_i ho; simp only [ho]; exact h
  · rename_i o ho
    simp only [ho]
    split at h
    · rename_i hw
      rw [if_pos hw]
      replace h := h.resolve_right (fun hh => hlo hh.2)
      refine ⟨fun _ _ => by rw [hF]; trivial, ?_⟩
      have hs : o.semAt F.round a.eval = execOp a.eval o := by
        cases hr : F.round with
        | none => simp [Oper.semAt_none]
        | some l => exact Oper.semAt_some l _ o (hnd o ho)
      rw [hs]
      unfold Oper.wp at h
      generalize (execOp a.eval o).run P w = r at h
      unfold Oper.upon at h
      unfold Oper.uponIn
      split at h
      · exact h
      · exact h
      · exact h
      · refine ⟨fun hh => (by rw [hdp] at hh; cases hh), (hCI h).mono ?_⟩
        intro e w2 h2
        cases e with
        | returned v => exact h2
        | panicked ch => exact h2
        | outgrown => exact h2
      · refine ⟨fun hh => (by rw [hdp] at hh; cases hh), fun c cs _ => ?_⟩
        obtain ⟨v, w', r, s⟩ := h c cs
        exact ⟨v, w', r, by rw [e1]; exact stepsIn_wide.2 s⟩
      · exact h
      · exact h.elim
    · rename_i hw
      rw [if_neg hw]
      exact ⟨fun _ _ => by rw [hF]; trivial, h⟩
theorem anyIn_of_held {F : Fence} {n : Nat} {md : Region.Mode} {ops : Array Oper} {Q : Exit → Act → World → Prop} {S : World → Prop} (hF : F.fn = fun _ => True) (hdp : F.depth = none) (hal : F.alive = false) (hnd : ∀ (i : Nat) o, ops[i]? = some o → ∀ c, o.op ≠ .defer c) (hlo : ¬ ∃ a w, Q .outgrown a w) :
    ∀ (fuel : Nat) (listed : Array Bool) (a : Act) (w : World), wpAnyH P md ops Q S fuel listed a w → wpAnyIn F n P md ops Q fuel listed a w
  | 0, _, _, _, h => h
  | fuel + 1, _, _, _, h => ⟨h.1, fun i hi => wpOpIn_mono (fun a' w' h' => anyIn_of_held hF hdp hal hnd hlo fuel _ a' w' h'.2) (opIn_of_op hF hdp hal (hnd i) hlo (h.2 i hi))⟩

/-- A region that draws its order, in a round: walked as anywhere, and it comes to its end. -/
theorem wpIn_region_held_drew {F : Fence} {n : Nat} {ops : Array Oper} {Q : Exit → Act → World → Prop} {S : World → Prop} {id : Nat} {a : Act} {w : World} (hF : F.fn = fun _ => True) (hdp : F.depth = none) (hal : F.alive = false) (hnd : (ops.toList.all fun o => match o.op with | .defer _ => false | _ => true) = true)
    (hm : P.follows .mixedOrders = true) (hS : S w.drew) (h : S w.drew → wpAnyH P .any ops (onlyN (fun a w => Q .normal a w)) S ops.size (Array.replicate ops.size false) a w.drew) : (Code.region id ops true).wpIn F n P Q a w := by
  have hnd' : ∀ (i : Nat) o, ops[i]? = some o → ∀ c, o.op ≠ .defer c := fun i o ho c hc => by
    have hm : o ∈ ops.toList := by
      have h2 : ops.toList[i]? = some o := by simpa using ho
      exact List.mem_of_getElem? h2
    have := List.all_eq_true.1 hnd o hm
    rw [hc] at this
    cases this
  refine wpIn_mono (Q := onlyN (fun a w => Q .normal a w)) (wpIn_region_any hm (anyIn_of_held hF hdp hal hnd' (by rintro ⟨_, _, h⟩; exact h) _ _ _ _ (h hS))) ?_
  intro e a w h
  cases e <;> first | exact h | exact h.elim
end
end Go.SL
namespace Go.SL
section
variable {P : Program} {ops : Array Oper} {rest : List Oper} {o : Oper} {a : Act} {Q : Exit → Act → World → Prop} {w : World} {l : List HProp}
theorem wpl_st1 (hE : Ent l w) (i : Nat) {b : Nat} {cs : List Value} {T : TypeId} (hi : l[i]? = some (pt b (.cells cs.toArray T (0, 0))))
    {t : TypeId} {x y : Operand} (ho : o.op = .store t x y) (hw : Region.wanted o (yielded ops a.tmps) = true) {off : Nat} (hx : a.eval x = .pointer (some ⟨b, off, none⟩)) {v : Value} (hy : a.eval y = v)
    (hn : ∀ w, (Go.sizeOf t).run P w = .ok 1 w) (hv : v.cells = #[v]) (h1 : v.oneCell' = true) (hfit : off < cs.length)
    (h : ∀ w', Ent (l.set i (pt b (.cells (cs.set off v).toArray T (0, 0)))) w' → wpList P ops Q rest (a.put o.dst undef) w') : wpList P ops Q (o :: rest) a w := by
  refine wpl_store hE i hi ho hw hx hy hn (by rw [hv]; rfl) (by rw [hv]; simpa using h1) (by simp; omega) fun w' hE' => h w' ?_
  have e : (cs.toArray.toList.take off ++ v.cells.toList ++ cs.toArray.toList.drop (off + v.cells.toList.length)).toArray = (cs.set off v).toArray := by
    rw [hv]
    simp only [List.toList_toArray, List.length_cons, List.length_nil, Nat.zero_add]
    rw [List.set_eq_take_append_cons_drop, if_pos hfit]
    simp
  rw [e] at hE'
  exact hE'
end
end Go.SL
namespace Go.SL
section
variable {P : Program} {ops : Array Oper} {rest : List Oper} {o : Oper} {a : Act} {Q : Exit → Act → World → Prop} {w : World} {l : List HProp}
theorem wpl_strBs (hE : Ent l w) {src dst e : TypeId} {x : Operand} (ho : o.op = .convert src dst x) (hw : Region.wanted o (yielded ops a.tmps) = true) {bs : List UInt8} (hx : a.eval x = .string ⟨bs.toArray⟩)
    (hs : P.underlying src = some .string) (hd : P.underlying dst = some (.slice e)) (he : P.underlying e = some (.int .u8))
    (h : ∀ (b c : Nat) (C : Array Value) (fz : Nat × Nat) w', bs.length ≤ c → (∀ (j : Nat) (u : Value), (bs.map fun b => Value.int .u8 b.toNat)[j]? = some u → C[j]? = some u) → Ent (pt b (.cells C e fz) :: l) w' → wpList P ops Q rest (a.put o.dst (.slice (some ⟨b, 0, none⟩) bs.length c)) w') : wpList P ops Q (o :: rest) a w := by
  have hr := Lib.run_convert_string_bytes (P := P) w src dst e ⟨bs.toArray⟩ hs hd he
  have hsz : (ByteArray.mk bs.toArray).size = bs.length := by simp [ByteArray.size]
  rw [hsz] at hr
  refine wpl_run hw (w' := Lib.bytesWorld w e ⟨bs.toArray⟩) (v := .slice (some ⟨w.heap.size, 0, none⟩) bs.length (grownCap w bs.length 0 e)) ?_ (h _ _ (Lib.bytesCells w e ⟨bs.toArray⟩) ((Lib.bytesCells w e ⟨bs.toArray⟩).size, (Lib.bytesCells w e ⟨bs.toArray⟩).size + 1) _ (grownCap_ge _ _ _ _) ?_ ?_)
  · simp [execOp, ho, hx, hr]
  · intro j u hu
    have hj := (List.getElem?_eq_some_iff.1 hu).1
    unfold Lib.bytesCells
    rw [Array.getElem?_append_left (by simpa using hj)]
    simpa using hu
  · refine hE.step0 (Bs := [pt w.heap.size _]) ⟨rfl, rfl, rfl⟩ (by rw [Lib.bytesWorld_size]; omega) (fun b hb => Lib.bytesWorld_at_old w e _ b hb) ⟨fun b => b = w.heap.size, on_single ?_, fun b hb => by omega⟩
    unfold pt
    exact ⟨Lib.bytesWorld_at_new w e _, fun _ => Iff.rfl⟩
end
end Go.SL
namespace Go.Proofs.YtehfbokkcamliaaDoor
open Go.RowKit Go.SL
attribute [local go_sem] Oper.semAt_some wide_fn wide_depth

theorem kidCells_drop : ∀ {ks : List Kid}, (∀ k ∈ ks, k.good) → ∀ i, (kidCells ks).drop (i * 36) = kidCells (ks.drop i)
  | _, _, 0 => by simp
  | [], _, i + 1 => by simp [kidCells]
  | k :: ks, h, i + 1 => by
    have h1 := kcells_len (h k (List.mem_cons_self ..))
    have ih := kidCells_drop (ks := ks) (fun x hx => h x (List.mem_cons_of_mem _ hx)) i
    rw [List.drop_succ_cons, ← ih, kidCells, List.flatMap_cons, show (i + 1) * 36 = (kcells k).length + i * 36 by omega, ← List.drop_drop, List.drop_left]
    rfl
theorem kidCells_app (a b : List Kid) : kidCells (a ++ b) = kidCells a ++ kidCells b := by simp [kidCells]
theorem kidCells_take {ks : List Kid} (h : ∀ k ∈ ks, k.good) (i : Nat) : (kidCells ks).take (i * 36) = kidCells (ks.take i) := by
  by_cases hi : i ≤ ks.length
  · have hl : (kidCells (ks.take i)).length = i * 36 := by rw [kidCells_len (fun k hk => h k (List.mem_of_mem_take hk)), List.length_take, Nat.min_eq_left hi]
    conv => lhs; rw [← List.take_append_drop i ks, kidCells_app]
    rw [List.take_left' hl]
  · rw [List.take_of_length_le (by rw [kidCells_len h]; omega), List.take_of_length_le (by omega)]
theorem pcB_reads {w : World} {data : List UInt8} {ad : Option Addr} {cd k : Nat} (hk : k < pcN 240 data.length) (hc : data.length ≤ cd) (hr : reads (.slice ad data.length cd) data.length (bvals data) w) :
    reads (pcV 1 240 ad data.length cd k) (pcAt 240 data k).length (bvals (pcAt 240 data k)) w := by
  have h := reads_pc (m := 240) (by omega) hr (by rw [bvals_length, Nat.mul_one]) hc hk
  have e1 : (pcAt 240 data k).length = min 240 (data.length - 240 * k) := by rw [pcAt, List.length_take, List.length_drop]
  have e2 : bvals (pcAt 240 data k) = ((bvals data).drop (240 * k * 1)).take (240 * 1) := by simp [pcAt, bvals, List.map_take, List.map_drop]
  rw [e1, e2]
  exact h
theorem pcK_reads {w : World} {ks : List Kid} (hg : ∀ k ∈ ks, k.good) {ad : Option Addr} {cd k : Nat} (hk : k < pcN 6 ks.length) (hc : ks.length ≤ cd) (hr : reads (.slice ad ks.length cd) ks.length (kidCells ks) w) :
    reads (pcV 36 6 ad ks.length cd k) (pcAt 6 ks k).length (kidCells (pcAt 6 ks k)) w := by
  have h := reads_pc (m := 6) (by omega) hr (kidCells_len hg) hc hk
  have e1 : (pcAt 6 ks k).length = min 6 (ks.length - 6 * k) := by rw [pcAt, List.length_take, List.length_drop]
  have e2 : kidCells (pcAt 6 ks k) = ((kidCells ks).drop (6 * k * 36)).take (6 * 36) := by
    rw [kidCells_drop hg, kidCells_take (fun x hx => hg x (List.mem_of_mem_drop hx)), pcAt]
  rw [e1, e2]
  exact h
theorem blobs_take {d : List UInt8} {k : Nat} (h : k < pcN 240 d.length) : (blobs d).take (k + 1) = (blobs d).take k ++ [⟨1, pcAt 240 d k, []⟩] := by
  rw [List.take_succ_eq_append_getElem (by rw [blobs_len]; exact h)]
  congr 2
  simp [blobs, pcsL]
theorem level_take {ks : List Kid} {k : Nat} (h : k < pcN 6 ks.length) : (level ks).take (k + 1) = (level ks).take k ++ [⟨2, [], pcAt 6 ks k⟩] := by
  rw [List.take_succ_eq_append_getElem (by rw [level_len]; exact h)]
  congr 2
  simp [level, pcsL]

theorem Kn_left {m l : List HProp} {p : World → Prop} (h : Knows m p) : Knows (m ++ l) p := fun w hw => h w (hw.perm List.perm_append_comm).drop
abbrev rowK (ao : Option Addr) (c : Nat) (ks : List Kid) : HProp := row 55 36 (.slice ao ks.length c) ks.length (kidCells ks)
/-- a level of kids, and the cell that holds it -/
def lvI (b : Nat) (ks : List Kid) : HProp := ex fun z : Option Addr × Nat => [pt b (.cells #[.slice z.1 ks.length z.2] 47), rowK z.1 z.2 ks]
theorem info_kid : elemInfo Tryd.prog 55 = some (some 36, 36, 56) := by kernel_rfl
theorem zs_kid : zeroSize Tryd.prog 55 = some 36 := by kernel_rfl

/-- behind so many blobs -/
def fiI (bx b2 bd b4 b5 : Nat) (C cs : Array Value) (fz : Nat × Nat) (data : List UInt8) (out : List (List UInt8)) (l : List HProp) (pre : List Value) : List HProp :=
  xOut bx (out ++ ((blobs data).take pre.length).map putC) :: lvI b5 (((blobs data).take pre.length).map kidOf) :: pt b2 (.cells #[.pointer (some ⟨bx, 0, none⟩)] 74) :: pt bd (.cells C 5 fz) :: pt b4 (.cells cs 55 (0, 0)) :: l
/-- behind so many indices of a level -/
def idI (bx b2 b4 b5 b7 : Nat) (ao : Option Addr) (c : Nat) (cs : Array Value) (ks : List Kid) (out : List (List UInt8)) (l : List HProp) (pre : List Value) : List HProp :=
  xOut bx (out ++ ((level ks).take pre.length).map putC) :: lvI b7 (((level ks).take pre.length).map kidOf) :: pt b2 (.cells #[.pointer (some ⟨bx, 0, none⟩)] 74) :: rowK ao c ks :: pt b5 (.cells #[.slice ao ks.length c] 47) :: pt b4 (.cells cs 55 (0, 0)) :: l

/-- what is so far put, and what is still to be put -/
def Fil (data : List UInt8) (dn : List Chunk) (f : Nat) (ks : List Kid) : Prop :=
  fileC data = (dn ++ (tower f ks).1, (tower f ks).2) ∧ ks.length ≤ f ∧ ks ≠ [] ∧ sum1 ks < 4294967296 ∧ dn.length + f * 250 ≤ 70000 ∧ ∃ h, Fit h ks ∧ h + f ≤ 250
theorem fil_start {data : List UInt8} (hd : data.length ≤ 50000) : Fil data (blobs data) (blobs data).length ((blobs data).map kidOf) := by
  obtain ⟨_, h2, h3⟩ := blobs_fit data (by omega)
  have hb : (blobs data).length ≤ 240 := by rw [blobs_len]; unfold pcN; omega
  exact ⟨rfl, by simp, h3, by rw [blobs_sum]; omega, by omega, 0, h2, by omega⟩
theorem fil_step {data : List UInt8} {dn : List Chunk} {f : Nat} {ks : List Kid} (h : Fil data dn f ks) (h1 : 1 < ks.length) : (∀ c ∈ level ks, mayC c = true ∧ c.good ∧ c.kind = 2) ∧ (∀ k ∈ (level ks).map kidOf, k.good) ∧ ∃ f', Fil data (dn ++ level ks) f' ((level ks).map kidOf) := by
  obtain ⟨e, hf, h0, hs, hdn, hh, hfit, hle⟩ := h
  obtain ⟨g, rfl⟩ : ∃ g, f = g + 1 := ⟨f - 1, by omega⟩
  obtain ⟨a, b, c, d⟩ := level_fit hfit h0 hs (by omega)
  have hll : (level ks).length < ks.length := by rw [level_len]; exact pcN_lt h1
  refine ⟨a, fun k hk => (b k hk).2.2, g, ?_, ?_, d, c, by rw [List.length_append]; omega, hh + 1, b, by omega⟩
  · rw [e, tower, if_neg (by omega)]
    simp
  · rw [List.length_map, level_len]
    have := pcN_lt h1
    omega
theorem fil_end {data : List UInt8} {dn : List Chunk} {f : Nat} {ks : List Kid} (h : Fil data dn f ks) (h1 : ¬ 1 < ks.length) : ∃ k, ks = [k] ∧ fileC data = (dn, k) ∧ k.good := by
  obtain ⟨e, hf, h0, hs, hdn, hh, hfit, hle⟩ := h
  cases ks with
  | nil => exact absurd rfl h0
  | cons k t =>
    cases t with
    | cons a t => simp at h1
    | nil =>
      refine ⟨k, rfl, ?_, (hfit k (List.mem_cons_self ..)).2.2⟩
      rw [e]
      cases f with
      | zero => simp [tower]
      | succ g => simp [tower]
theorem fil_good {data : List UInt8} {dn : List Chunk} {f : Nat} {ks : List Kid} (h : Fil data dn f ks) : ∀ k ∈ ks, k.good := by
  obtain ⟨_, _, _, _, _, _, hfit, _⟩ := h
  exact fun k hk => (hfit k hk).2.2
theorem fil_len {data : List UInt8} {dn : List Chunk} {f : Nat} {ks : List Kid} (h : Fil data dn f ks) : ks.length ≤ 250 := by
  obtain ⟨_, h1, _, _, _, _, _, h2⟩ := h
  omega

/-- the loop over the levels: what its state holds -/
def FiI (bx b2 b4 b5 : Nat) (cs : Array Value) (data : List UInt8) (out : List (List UInt8)) (l : List HProp) (a : Act) (w : World) : Prop :=
  ∃ (Ds : List Nat) (us : List Value) (v3 : Value) (dn : List Chunk) (f : Nat) (ks : List Kid), us.length = 32 ∧ a.defers = Ds.map mkD ∧
    a.tmps = (.pointer (some ⟨bx, 0, none⟩) :: .string ⟨data.toArray⟩ :: .pointer (some ⟨b2, 0, none⟩) :: v3 :: .pointer (some ⟨b4, 0, none⟩) :: .pointer (some ⟨b5, 0, none⟩) :: us).toArray ∧
    Fil data dn f ks ∧ Ent (xOut bx (out ++ dn.map putC) :: lvI b5 ks :: pt b2 (.cells #[.pointer (some ⟨bx, 0, none⟩)] 74) :: pt b4 (.cells cs 55 (0, 0)) :: (l ++ Ds.map ptD)) w

set_option maxRecDepth 100000 in
set_option maxHeartbeats 8000000 in
theorem file_any {data : List UInt8} (hd : data.length ≤ 50000) {bx : Nat} {out : List (List UInt8)} (ho : out.length ≤ 900000000000) {l : List HProp} {w : World} (ht : Knows l KTab) (hf : Knows l FTab) (hE : Ent (xOut bx out :: l) w) :
    Calls Tryd.prog 53 #[.pointer (some ⟨bx, 0, none⟩), .string ⟨data.toArray⟩] w
      (Ret fun v w' => v = .agg (kcells (fileC data).2).toArray ∧ Ent (xOut bx (out ++ (fileC data).1.map putC) :: l) w') := by
  have Ht := SL.hid ht
  have Hf := SL.hid hf
  clear ht hf
  refine calls_of_marks Tryd.func53 rfl ?_
  simp only [Tryd.ntmps53, List.size_toArray, List.length_cons, List.length_nil, Nat.reduceAdd, Nat.reduceSub, Array.replicate_succ, Array.replicate_zero, List.push_toArray, List.append_toArray, List.nil_append, List.cons_append]
  go_wp2_with (first
    | go_skip
    | ((with_reducible (show Go.wpList _ _ _ (Go.Oper.mk _ (.box _ _) _ _ _ _ :: _) _ _)); refine wpl_box hE rfl rfl rfl ?_; clear hE; intro b2 w hE; simp only [Act.eval, Act.put, List.setIfInBounds_toArray, List.set_cons_zero, List.set_cons_succ, getD_lit, List.getD_cons_succ, List.getD_cons_zero, Value.cells] at hE)
    | ((with_reducible (show Go.wpList _ _ _ (Go.Oper.mk _ (.alloc 55) _ _ _ _ :: _) _ _)); refine wpl_allocN hE rfl rfl (n := 36) (by kernel_rfl) ?_; clear hE; intro b4 cs w1 hq hE)
    | ((with_reducible (show Go.wpList _ _ _ (Go.Oper.mk _ (.alloc 47) _ _ _ _ :: _) _ _)); refine wpl_alloc hE rfl rfl (by simp [go_sem]; rfl) ?_; clear hE; intro b5 w hE; simp only [Act.eval, Act.put, List.setIfInBounds_toArray, List.set_cons_zero, List.set_cons_succ, getD_lit, List.getD_cons_succ, List.getD_cons_zero, Value.cells] at hE)
    | ((with_reducible (show Go.wpList _ _ _ (Go.Oper.mk _ (.convert 9 52 _) _ _ _ _ :: _) _ _)); refine wpl_strBs hE rfl rfl rfl Tryd.underlying9 Tryd.underlying52 Tryd.underlying5 ?_; clear hE; intro bd cd C fz w1 hcd hC hE)
    | (go_at_call 85; refine (piecesB 240 _ _ _ hE).mono ?_; clear hE; rintro e w5 ⟨v, rfl, bl, bm, rfl, hE⟩))
  have hq0 : out ++ ((blobs data).take 0).map putC = out := by simp
  have HC := SL.hid hC
  have Hq := SL.hid hq
  clear hC hq
  have HQ0 := SL.hid hq0
  clear hq0
  refine wpIn_wide.1 (wpIn_rangeSL (gf := 108) rfl (enters_of Tryd.func108 (by kernel_rfl) rfl) (pieces_iterB 240 (by omega) (by omega) (some ⟨bd, 0, none⟩) data.length cd hcd bl bm) (fun _ => rfl) (fiI bx b2 bd b4 b5 C cs.toArray fz data out l) (fun _ _ => [ex fun _ : False => []]) ?e0
    ?act ?assign ?body ?done ?stop)
  case e0 =>
    have h := Ent.pack (f := fun z : Option Addr × Nat => [pt b5 (.cells #[.slice z.1 ([] : List Kid).length z.2] 47), rowK z.1 z.2 []]) (none, 0) ((hE.nil 55 36).front 4 rfl)
    show Ent (pcStB 240 (some ⟨bd, 0, none⟩) data.length cd bl bm [] ++ (xOut bx (out ++ ((blobs data).take 0).map putC) :: lvI b5 [] :: pt b2 (.cells #[.pointer (some ⟨bx, 0, none⟩)] 74) :: pt bd (.cells C 5 fz) :: pt b4 (.cells cs.toArray 55 (0, 0)) :: l)) _
    rw [HQ0.out]
    exact ((((((h.front 4 rfl).front 4 rfl).front 5 rfl).front 3 rfl).front 6 rfl).front 6 rfl).front 6 rfl
  case assign =>
    intro lp x W K hK
    gi_wp2
    exact hK
  case stop =>
    intro D c pre W hpre hW
    obtain ⟨h, _⟩ := (hW.front 1 rfl).unpack
    exact h.elim
  case body =>
    intro lp pre x W L hpre hW
    obtain ⟨hk, hx⟩ := pcVs_at hpre
    obtain ⟨⟨ao, c⟩, hW'⟩ := (hW.front 1 rfl).unpack
    have Hst := SL.hid (blobs_take hk)
    have HtL := SL.hid (Kn_left (l := L) Ht.out)
    have HfL := SL.hid (Kn_left (l := L) Hf.out)
    have Hpc := SL.hid (fun (w : World) (hr : reads (.slice (some ⟨bd, 0, none⟩) data.length cd) data.length (bvals data) w) => pcB_reads hk hcd hr)
    have hlen : (blobs data).length ≤ 240 := by rw [blobs_len]; unfold pcN; omega
    have hm : mayC ⟨1, pcAt 240 data pre.length, []⟩ = true := may_blob (pcAt_len 240 data pre.length)
    have hgd : (Chunk.mk 1 (pcAt 240 data pre.length) []).good := fun k hk => absurd hk (List.not_mem_nil)
    have hsz : csize ⟨1, pcAt 240 data pre.length, []⟩ < 4294967296 := by
      have := pcAt_len 240 data pre.length
      have e : csize ⟨1, pcAt 240 data pre.length, []⟩ = (pcAt 240 data pre.length).length := by simp [csize]
      rw [e]; omega
    rw [← hx] at Hpc
    have HI := SL.hid (show fiI bx b2 bd b4 b5 C cs.toArray fz data out l (pre ++ [x]) = xOut bx ((out ++ ((blobs data).take pre.length).map putC) ++ [putC (Chunk.mk 1 (pcAt 240 data pre.length) [])]) :: lvI b5 (((blobs data).take pre.length).map kidOf ++ [kidOf (Chunk.mk 1 (pcAt 240 data pre.length) [])]) :: pt b2 (.cells #[.pointer (some ⟨bx, 0, none⟩)] 74) :: pt bd (.cells C 5 fz) :: pt b4 (.cells cs.toArray 55 (0, 0)) :: l by
      have h1 := Hst.out
      simp only [fiI, List.length_append, List.length_singleton, h1, List.map_append, List.map_cons, List.map_nil, List.append_assoc])
    have hbl : ((blobs data).take pre.length).length ≤ 250 := by rw [List.length_take]; omega
    have Hin := SL.hid (show fiI bx b2 bd b4 b5 C cs.toArray fz data out l pre = xOut bx (out ++ ((blobs data).take pre.length).map putC) :: lvI b5 (((blobs data).take pre.length).map kidOf) :: pt b2 (.cells #[.pointer (some ⟨bx, 0, none⟩)] 74) :: pt bd (.cells C 5 fz) :: pt b4 (.cells cs.toArray 55 (0, 0)) :: l from rfl)
    have hkl : (((blobs data).take pre.length).map kidOf).length ≤ 1000 := by rw [List.length_map]; omega
    have hol : (out ++ ((blobs data).take pre.length).map putC).length ≤ 1000000000000 := by rw [List.length_append, List.length_map]; omega
    replace hW : Ent (xOut bx (out ++ ((blobs data).take pre.length).map putC) :: pt b5 (.cells #[.slice ao (((blobs data).take pre.length).map kidOf).length c] 47) :: rowK ao c (((blobs data).take pre.length).map kidOf) :: pt b2 (.cells #[.pointer (some ⟨bx, 0, none⟩)] 74) :: pt bd (.cells C 5 fz) :: pt b4 (.cells cs.toArray 55 (0, 0)) :: (l ++ L)) W := hW'.front 2 rfl
    clear hW' Hst Hin hbl hlen
    generalize out ++ ((blobs data).take pre.length).map putC = oo at *
    generalize ((blobs data).take pre.length).map kidOf = ks at *
    generalize pcAt 240 data pre.length = p at *
    have hkid := kidOf_good hsz
    have Hlen := SL.hid (kcells_len hkid)
    have Hone := SL.hid (kcells_one (kidOf (Chunk.mk 1 p [])))
    have Hkx := SL.hid (show kidCells (ks ++ [kidOf (Chunk.mk 1 p [])]) = kidCells ks ++ kcells (kidOf (Chunk.mk 1 p [])) by simp [kidCells])
    have HX := SL.hid (fun (LL : List HProp) (w : World) (hl : (l ++ L) <:+ LL) (hE : Ent (xOut bx oo :: LL) w) =>
      show Calls Tryd.prog 54 #[.pointer (some ⟨bx, 0, none⟩), .agg #[.int .u8 1, .string ⟨p.toArray⟩, .slice none 0 0]] w
          (Ret fun v w' => v = .agg (kcells (kidOf (Chunk.mk 1 p []))).toArray ∧ Ent (xOut bx (oo ++ [putC (Chunk.mk 1 p [])]) :: LL) w') from put_any (u := 1) (ks := []) (ao := none) (c := 0) hgd hm hsz hol (HtL.out.suf hl) (HfL.out.suf hl) (fun w _ => reads_nil 0 0 rfl _) hE)
    clear hm hgd hsz hkid hpre hk hol hx
    generalize hkk : kidOf (Chunk.mk 1 p []) = kk at *
    clear hkk
    generalize putC (Chunk.mk 1 p []) = pb at *
    generalize hkx : kcells kk = kx at *
    clear hkx
    have hO := hW.drew
    gi_wp2
    refine wpIn_region_held_drew (S := (fun w' => (w'.cell? ⟨b2, 0, none⟩ = some (.pointer (some ⟨bx, 0, none⟩))))) rfl rfl rfl (by kernel_rfl) (by kernel_rfl) (cellV hO (by repeat (first | exact List.Mem.head _ | refine List.Mem.tail _ ?_)) rfl) (fun hS => ?_)
    refine tL 1 ⟨some 14, .load 74 (.tmp 2), _, _, _, none⟩ hS ?_
    refine tV 2 ⟨some 15, .move (.tmp 6), _, _, _, none⟩ hS ?_
    refine wpAnyH_ready (rs := [0, 3]) (by kernel_rfl) (by simp) ?_
    refine (AllReadyH.cons (o := ⟨some 13, .load 47 (.tmp 5), _, _, _, none⟩) rfl (fun K hK => ?_) (AllReadyH.cons (o := ⟨some 16, .convert 52 9 (.tmp 15), _, _, _, none⟩) rfl (fun K hK => ?_) AllReadyH.nil))
    focus
      (first | refine step_load1 hO 1 rfl rfl (by rfl) (by rfl) (by simp [go_sem]) rfl ?_ | refine step_load1 hO 2 rfl rfl (by rfl) (by rfl) (by simp [go_sem]) rfl ?_)
      refine hK.out _ _ (cellV hO (by repeat (first | exact List.Mem.head _ | refine List.Mem.tail _ ?_)) rfl) (fun hS => ?_)
      clear hK K
      try simp only [Act.put, sb, s0, sz]
      refine wpAnyH_ready (rs := [3]) (by kernel_rfl) (by simp) ?_
      refine (AllReadyH.cons (o := ⟨some 16, .convert 52 9 (.tmp 15), _, _, _, none⟩) rfl (fun K hK => ?_) AllReadyH.nil)
      (refine stp_bytesStr rfl (by rfl) (by rfl) Tryd.underlying52 Tryd.underlying5 Tryd.underlying9 (Hpc.out _ (reads_pt hO 4 rfl (off := 0) (fun j u hu => by rw [Nat.zero_add]; exact HC.out j u hu))) rfl ?_)
      refine hK.out _ _ (cellV hO (by repeat (first | exact List.Mem.head _ | refine List.Mem.tail _ ?_)) rfl) (fun hS => ?_)
      clear hK K
      try simp only [Act.put, sb, s0, sz]
      refine tV 4 ⟨some 17, .build 49 #[(0, .const (.int .u8 1)), (1, .tmp 16)], _, _, _, none⟩ hS ?_
      refine wpAnyH_ready (rs := [5]) (by kernel_rfl) (by simp) ?_
      refine (AllReadyH.cons (o := ⟨some 18, .call { callee := .value (.func 54), args := #[.tmp 14, .tmp 17], argTypes := #[74, 49] }, _, _, _, none⟩) rfl (fun K hK => ?_) AllReadyH.nil)
      (go_simp; refine (HX.out _ _ sfx hO).mono ?_; clear hO; rintro e w5 ⟨v, h1, h2, hO⟩; cases h1; cases h2)
      refine hK.out _ _ (cellV hO (by repeat (first | exact List.Mem.head _ | refine List.Mem.tail _ ?_)) rfl) (fun hS => ?_)
      clear hK K
      try simp only [Act.put, sb, s0, sz]
      refine wpAnyH_ready (rs := [6]) (by kernel_rfl) (by simp) ?_
      refine (AllReadyH.cons (o := ⟨some 19, .buildSlice 47 1 #[(0, .tmp 18)], _, _, _, none⟩) rfl (fun K hK => ?_) AllReadyH.nil)
      (refine stp_build1 hO rfl (by rfl) (xs := kx) (by rfl) Tryd.underlying47 zs_kid Tryd.sizeOf55 (by decide) (by decide) Hlen.out ?_; clear hO; intro b9 w7 hO)
      refine hK.out _ _ (cellV hO (by repeat (first | exact List.Mem.head _ | refine List.Mem.tail _ ?_)) rfl) (fun hS => ?_)
      clear hK K
      try simp only [Act.put, sb, s0, sz]
      refine wpAnyH_ready (rs := [7]) (by kernel_rfl) (by simp) ?_
      refine (AllReadyH.cons (o := ⟨some 20, .call { callee := .builtin .append, args := #[.tmp 13, .tmp 19], argTypes := #[47, 47] }, _, _, _, none⟩) rfl (fun K hK => ?_) AllReadyH.nil)
      (refine step_appendG hO 3 rfl rfl (by rfl) (by rfl) (by rfl) Tryd.underlying47 info_kid (by decide) (m := 1) (news := kx) (reads_pt hO 0 rfl (off := 0) (fun j u hu => by rw [Nat.zero_add, List.getElem?_toArray]; exact hu)) (by rw [Hlen.out]) Hone.out (by omega) (by omega) ?_; clear hO; intro an cn w8 hO; simp only [List.set_cons_zero, List.set_cons_succ] at hO)
      refine hK.out _ _ (cellV hO (by repeat (first | exact List.Mem.head _ | refine List.Mem.tail _ ?_)) rfl) (fun hS => ?_)
      clear hK K
      try simp only [Act.put, sb, s0, sz]
      refine wpAnyH_ready (rs := [8]) (by kernel_rfl) (by simp) ?_
      refine (AllReadyH.cons (o := ⟨none, .store 47 (.tmp 5) (.tmp 20), _, _, _, none⟩) rfl (fun K hK => ?_) AllReadyH.nil)
      (refine stp_setC hO 2 rfl rfl (by rfl) (by rfl) (by rfl) Tryd.sizeOf47 rfl rfl (by simp) ?_; clear hO; intro w9 hO; simp only [List.set_cons_zero, List.set_cons_succ] at hO)
      refine hK.out _ _ (cellV hO (by repeat (first | exact List.Mem.head _ | refine List.Mem.tail _ ?_)) rfl) (fun hS => ?_)
      clear hK K
      try simp only [Act.put, sb, s0, sz]
      refine wpAnyH_done (by kernel_rfl) ?_ _
    rotate_right
    focus
      (refine stp_bytesStr rfl (by rfl) (by rfl) Tryd.underlying52 Tryd.underlying5 Tryd.underlying9 (Hpc.out _ (reads_pt hO 4 rfl (off := 0) (fun j u hu => by rw [Nat.zero_add]; exact HC.out j u hu))) rfl ?_)
      refine hK.out _ _ (cellV hO (by repeat (first | exact List.Mem.head _ | refine List.Mem.tail _ ?_)) rfl) (fun hS => ?_)
      clear hK K
      try simp only [Act.put, sb, s0, sz]
      refine tV 4 ⟨some 17, .build 49 #[(0, .const (.int .u8 1)), (1, .tmp 16)], _, _, _, none⟩ hS ?_
      refine wpAnyH_ready (rs := [0, 5]) (by kernel_rfl) (by simp) ?_
      refine (AllReadyH.cons (o := ⟨some 13, .load 47 (.tmp 5), _, _, _, none⟩) rfl (fun K hK => ?_) (AllReadyH.cons (o := ⟨some 18, .call { callee := .value (.func 54), args := #[.tmp 14, .tmp 17], argTypes := #[74, 49] }, _, _, _, none⟩) rfl (fun K hK => ?_) AllReadyH.nil))
      focus
        (first | refine step_load1 hO 1 rfl rfl (by rfl) (by rfl) (by simp [go_sem]) rfl ?_ | refine step_load1 hO 2 rfl rfl (by rfl) (by rfl) (by simp [go_sem]) rfl ?_)
        refine hK.out _ _ (cellV hO (by repeat (first | exact List.Mem.head _ | refine List.Mem.tail _ ?_)) rfl) (fun hS => ?_)
        clear hK K
        try simp only [Act.put, sb, s0, sz]
        refine wpAnyH_ready (rs := [5]) (by kernel_rfl) (by simp) ?_
        refine (AllReadyH.cons (o := ⟨some 18, .call { callee := .value (.func 54), args := #[.tmp 14, .tmp 17], argTypes := #[74, 49] }, _, _, _, none⟩) rfl (fun K hK => ?_) AllReadyH.nil)
        (go_simp; refine (HX.out _ _ sfx hO).mono ?_; clear hO; rintro e w5 ⟨v, h1, h2, hO⟩; cases h1; cases h2)
        refine hK.out _ _ (cellV hO (by repeat (first | exact List.Mem.head _ | refine List.Mem.tail _ ?_)) rfl) (fun hS => ?_)
        clear hK K
        try simp only [Act.put, sb, s0, sz]
        refine wpAnyH_ready (rs := [6]) (by kernel_rfl) (by simp) ?_
        refine (AllReadyH.cons (o := ⟨some 19, .buildSlice 47 1 #[(0, .tmp 18)], _, _, _, none⟩) rfl (fun K hK => ?_) AllReadyH.nil)
        (refine stp_build1 hO rfl (by rfl) (xs := kx) (by rfl) Tryd.underlying47 zs_kid Tryd.sizeOf55 (by decide) (by decide) Hlen.out ?_; clear hO; intro b9 w7 hO)
        refine hK.out _ _ (cellV hO (by repeat (first | exact List.Mem.head _ | refine List.Mem.tail _ ?_)) rfl) (fun hS => ?_)
        clear hK K
        try simp only [Act.put, sb, s0, sz]
        refine wpAnyH_ready (rs := [7]) (by kernel_rfl) (by simp) ?_
        refine (AllReadyH.cons (o := ⟨some 20, .call { callee := .builtin .append, args := #[.tmp 13, .tmp 19], argTypes := #[47, 47] }, _, _, _, none⟩) rfl (fun K hK => ?_) AllReadyH.nil)
        (refine step_appendG hO 3 rfl rfl (by rfl) (by rfl) (by rfl) Tryd.underlying47 info_kid (by decide) (m := 1) (news := kx) (reads_pt hO 0 rfl (off := 0) (fun j u hu => by rw [Nat.zero_add, List.getElem?_toArray]; exact hu)) (by rw [Hlen.out]) Hone.out (by omega) (by omega) ?_; clear hO; intro an cn w8 hO; simp only [List.set_cons_zero, List.set_cons_succ] at hO)
        refine hK.out _ _ (cellV hO (by repeat (first | exact List.Mem.head _ | refine List.Mem.tail _ ?_)) rfl) (fun hS => ?_)
        clear hK K
        try simp only [Act.put, sb, s0, sz]
        refine wpAnyH_ready (rs := [8]) (by kernel_rfl) (by simp) ?_
        refine (AllReadyH.cons (o := ⟨none, .store 47 (.tmp 5) (.tmp 20), _, _, _, none⟩) rfl (fun K hK => ?_) AllReadyH.nil)
        (refine stp_setC hO 2 rfl rfl (by rfl) (by rfl) (by rfl) Tryd.sizeOf47 rfl rfl (by simp) ?_; clear hO; intro w9 hO; simp only [List.set_cons_zero, List.set_cons_succ] at hO)
        refine hK.out _ _ (cellV hO (by repeat (first | exact List.Mem.head _ | refine List.Mem.tail _ ?_)) rfl) (fun hS => ?_)
        clear hK K
        try simp only [Act.put, sb, s0, sz]
        refine wpAnyH_done (by kernel_rfl) ?_ _
      rotate_right
      focus
        (go_simp; refine (HX.out _ _ sfx hO).mono ?_; clear hO; rintro e w5 ⟨v, h1, h2, hO⟩; cases h1; cases h2)
        refine hK.out _ _ (cellV hO (by repeat (first | exact List.Mem.head _ | refine List.Mem.tail _ ?_)) rfl) (fun hS => ?_)
        clear hK K
        try simp only [Act.put, sb, s0, sz]
        refine wpAnyH_ready (rs := [0, 6]) (by kernel_rfl) (by simp) ?_
        refine (AllReadyH.cons (o := ⟨some 13, .load 47 (.tmp 5), _, _, _, none⟩) rfl (fun K hK => ?_) (AllReadyH.cons (o := ⟨some 19, .buildSlice 47 1 #[(0, .tmp 18)], _, _, _, none⟩) rfl (fun K hK => ?_) AllReadyH.nil))
        focus
          (first | refine step_load1 hO 1 rfl rfl (by rfl) (by rfl) (by simp [go_sem]) rfl ?_ | refine step_load1 hO 2 rfl rfl (by rfl) (by rfl) (by simp [go_sem]) rfl ?_)
          refine hK.out _ _ (cellV hO (by repeat (first | exact List.Mem.head _ | refine List.Mem.tail _ ?_)) rfl) (fun hS => ?_)
          clear hK K
          try simp only [Act.put, sb, s0, sz]
          refine wpAnyH_ready (rs := [6]) (by kernel_rfl) (by simp) ?_
          refine (AllReadyH.cons (o := ⟨some 19, .buildSlice 47 1 #[(0, .tmp 18)], _, _, _, none⟩) rfl (fun K hK => ?_) AllReadyH.nil)
          (refine stp_build1 hO rfl (by rfl) (xs := kx) (by rfl) Tryd.underlying47 zs_kid Tryd.sizeOf55 (by decide) (by decide) Hlen.out ?_; clear hO; intro b9 w7 hO)
          refine hK.out _ _ (cellV hO (by repeat (first | exact List.Mem.head _ | refine List.Mem.tail _ ?_)) rfl) (fun hS => ?_)
          clear hK K
          try simp only [Act.put, sb, s0, sz]
          refine wpAnyH_ready (rs := [7]) (by kernel_rfl) (by simp) ?_
          refine (AllReadyH.cons (o := ⟨some 20, .call { callee := .builtin .append, args := #[.tmp 13, .tmp 19], argTypes := #[47, 47] }, _, _, _, none⟩) rfl (fun K hK => ?_) AllReadyH.nil)
          (refine step_appendG hO 3 rfl rfl (by rfl) (by rfl) (by rfl) Tryd.underlying47 info_kid (by decide) (m := 1) (news := kx) (reads_pt hO 0 rfl (off := 0) (fun j u hu => by rw [Nat.zero_add, List.getElem?_toArray]; exact hu)) (by rw [Hlen.out]) Hone.out (by omega) (by omega) ?_; clear hO; intro an cn w8 hO; simp only [List.set_cons_zero, List.set_cons_succ] at hO)
          refine hK.out _ _ (cellV hO (by repeat (first | exact List.Mem.head _ | refine List.Mem.tail _ ?_)) rfl) (fun hS => ?_)
          clear hK K
          try simp only [Act.put, sb, s0, sz]
          refine wpAnyH_ready (rs := [8]) (by kernel_rfl) (by simp) ?_
          refine (AllReadyH.cons (o := ⟨none, .store 47 (.tmp 5) (.tmp 20), _, _, _, none⟩) rfl (fun K hK => ?_) AllReadyH.nil)
          (refine stp_setC hO 2 rfl rfl (by rfl) (by rfl) (by rfl) Tryd.sizeOf47 rfl rfl (by simp) ?_; clear hO; intro w9 hO; simp only [List.set_cons_zero, List.set_cons_succ] at hO)
          refine hK.out _ _ (cellV hO (by repeat (first | exact List.Mem.head _ | refine List.Mem.tail _ ?_)) rfl) (fun hS => ?_)
          clear hK K
          try simp only [Act.put, sb, s0, sz]
          refine wpAnyH_done (by kernel_rfl) ?_ _
        rotate_right
        focus
          (refine stp_build1 hO rfl (by rfl) (xs := kx) (by rfl) Tryd.underlying47 zs_kid Tryd.sizeOf55 (by decide) (by decide) Hlen.out ?_; clear hO; intro b9 w7 hO)
          refine hK.out _ _ (cellV hO (by repeat (first | exact List.Mem.head _ | refine List.Mem.tail _ ?_)) rfl) (fun hS => ?_)
          clear hK K
          try simp only [Act.put, sb, s0, sz]
          refine wpAnyH_ready (rs := [0]) (by kernel_rfl) (by simp) ?_
          refine (AllReadyH.cons (o := ⟨some 13, .load 47 (.tmp 5), _, _, _, none⟩) rfl (fun K hK => ?_) AllReadyH.nil)
          (first | refine step_load1 hO 1 rfl rfl (by rfl) (by rfl) (by simp [go_sem]) rfl ?_ | refine step_load1 hO 2 rfl rfl (by rfl) (by rfl) (by simp [go_sem]) rfl ?_)
          refine hK.out _ _ (cellV hO (by repeat (first | exact List.Mem.head _ | refine List.Mem.tail _ ?_)) rfl) (fun hS => ?_)
          clear hK K
          try simp only [Act.put, sb, s0, sz]
          refine wpAnyH_ready (rs := [7]) (by kernel_rfl) (by simp) ?_
          refine (AllReadyH.cons (o := ⟨some 20, .call { callee := .builtin .append, args := #[.tmp 13, .tmp 19], argTypes := #[47, 47] }, _, _, _, none⟩) rfl (fun K hK => ?_) AllReadyH.nil)
          (refine step_appendG hO 3 rfl rfl (by rfl) (by rfl) (by rfl) Tryd.underlying47 info_kid (by decide) (m := 1) (news := kx) (reads_pt hO 0 rfl (off := 0) (fun j u hu => by rw [Nat.zero_add, List.getElem?_toArray]; exact hu)) (by rw [Hlen.out]) Hone.out (by omega) (by omega) ?_; clear hO; intro an cn w8 hO; simp only [List.set_cons_zero, List.set_cons_succ] at hO)
          refine hK.out _ _ (cellV hO (by repeat (first | exact List.Mem.head _ | refine List.Mem.tail _ ?_)) rfl) (fun hS => ?_)
          clear hK K
          try simp only [Act.put, sb, s0, sz]
          refine wpAnyH_ready (rs := [8]) (by kernel_rfl) (by simp) ?_
          refine (AllReadyH.cons (o := ⟨none, .store 47 (.tmp 5) (.tmp 20), _, _, _, none⟩) rfl (fun K hK => ?_) AllReadyH.nil)
          (refine stp_setC hO 2 rfl rfl (by rfl) (by rfl) (by rfl) Tryd.sizeOf47 rfl rfl (by simp) ?_; clear hO; intro w9 hO; simp only [List.set_cons_zero, List.set_cons_succ] at hO)
          refine hK.out _ _ (cellV hO (by repeat (first | exact List.Mem.head _ | refine List.Mem.tail _ ?_)) rfl) (fun hS => ?_)
          clear hK K
          try simp only [Act.put, sb, s0, sz]
          refine wpAnyH_done (by kernel_rfl) ?_ _
    all_goals
      refine onlyN_n ?_
      gi_wp2
      have hF := (hO.tail.front 2 rfl).front 2 rfl
      have q1 : (ks ++ [kk]).length = ks.length + 1 := by simp
      have hG := Ent.pack (f := fun z : Option Addr × Nat => [pt b5 (.cells #[.slice z.1 (ks ++ [kk]).length z.2] 47), rowK z.1 z.2 (ks ++ [kk])]) (an, cn) (by simp only [rowK, q1, Hkx.out]; exact hF)
      show Ent (fiI bx b2 bd b4 b5 C cs.toArray fz data out l (pre ++ [_]) ++ L) _
      rw [HI.out]
      exact hG.front 1 rfl

  case done =>
    intro D W hW
    rw [fiI, pcVs_len, ← blobs_len, List.take_length] at hW
    go_wp2
    have hfil0 := fil_start hd
    have Hoo := SL.hid (show ∀ (dn : List Chunk), dn.length ≤ 70000 → (out ++ dn.map putC).length ≤ 900000070000 from fun dn h => by rw [List.length_append, List.length_map]; omega)
    clear HQ0 hcd hE hd ho
    have HtB := SL.hid (Ht.out.cons (A := pt bd (.cells C 5 fz)))
    have HfB := SL.hid (Hf.out.cons (A := pt bd (.cells C 5 fz)))
    have hlast : ∀ (w : World), Ent (xOut bx (out ++ (fileC data).1.map putC) :: pt bd (.cells C 5 fz) :: l) w → Ent (xOut bx (out ++ (fileC data).1.map putC) :: l) w := fun w h => h.erase 1
    have Hlast := SL.hid hlast
    clear hlast
    have hW2 : Ent (xOut bx (out ++ (blobs data).map putC) :: lvI b5 ((blobs data).map kidOf) :: pt b2 (.cells #[.pointer (some ⟨bx, 0, none⟩)] 74) :: pt b4 (.cells cs.toArray 55 (0, 0)) :: ((pt bd (.cells C 5 fz) :: l) ++ [D].map ptD)) W := by
      have h := (((((hW.front 4 rfl).front 5 rfl).front 5 rfl).front 5 rfl).front 5 rfl).front 5 rfl
      exact h.perm (List.perm_append_singleton (ptD D) (xOut bx (out ++ (blobs data).map putC) :: lvI b5 ((blobs data).map kidOf) :: pt b2 (.cells #[.pointer (some ⟨bx, 0, none⟩)] 74) :: pt b4 (.cells cs.toArray 55 (0, 0)) :: pt bd (.cells C 5 fz) :: l)).symm
    clear hW
    generalize pt bd (.cells C 5 fz) :: l = lB at *
    refine wp_loop (FiI bx b2 b4 b5 cs.toArray data out lB) (fun _ w => sliceLeft b5 w) ⟨[D], _, _, _, _, _, rfl, rfl, rfl, hfil0, hW2⟩ ?_
    clear hW2 hfil0
    rintro a w ⟨Ds, us, v3, dn, f, ks0, hus, hds, htm, hfil, hE⟩
    obtain ⟨tmps, defers⟩ := a
    simp only at hds htm
    obtain ⟨x0, x1, x2, x3, x4, x5, x6, x7, x8, x9, x10, x11, x12, x13, x14, x15, x16, x17, x18, x19, x20, x21, x22, x23, x24, x25, x26, x27, x28, x29, x30, x31, rfl⟩ := list32 hus
    subst hds htm
    clear hus
    have Ht2 := SL.hid (Kn_left (l := Ds.map ptD) HtB.out)
    have Hf2 := SL.hid (Kn_left (l := Ds.map ptD) HfB.out)
    obtain ⟨⟨al, cl⟩, hE'⟩ := (hE.front 1 rfl).unpack
    have hcl := cap_row hE' 1 rfl
    replace hE : Ent (xOut bx (out ++ dn.map putC) :: pt b5 (.cells #[.slice al ks0.length cl] 47) :: rowK al cl ks0 :: pt b2 (.cells #[.pointer (some ⟨bx, 0, none⟩)] 74) :: pt b4 (.cells cs.toArray 55 (0, 0)) :: (lB ++ Ds.map ptD)) w := hE'.front 2 rfl
    clear hE'
    have Hsl := SL.hid (sliceLeft_eq (show w.cell? ⟨b5, 0, none⟩ = some (.slice al ks0.length cl) from hE.cell 1 rfl 0))
    have hdn := hfil.2.2.2.2.1
    have hoo := Hoo.out dn (by omega)
    have Hfil := SL.hid hfil
    clear hdn
    by_cases hlt : 1 < ks0.length
    · have hd1 : decide (1 < ks0.length) = true := decide_eq_true hlt
      have hd2 : decide ((1 : Int) < (ks0.length : Int)) = true := decide_eq_true (by omega)
      clear hfil
      obtain ⟨oo0, hoo0⟩ : ∃ o, o = out ++ dn.map putC := ⟨_, rfl⟩
      rw [← hoo0] at hE hoo
      have Hoo0 := SL.hid hoo0
      clear hoo0
      obtain ⟨l2, hl2⟩ : ∃ l2, l2 = lB ++ Ds.map ptD := ⟨_, rfl⟩
      rw [← hl2] at hE Ht2 Hf2
      have Hl2 := SL.hid hl2
      clear hl2
      go_wp2_with (first
        | go_skip
        | ((with_reducible (show Go.wpList _ _ _ (Go.Oper.mk _ (.alloc 47) _ _ _ _ :: _) _ _)); refine wpl_alloc hE rfl rfl (by simp [go_sem]; rfl) ?_; clear hE; intro b7 w hE; simp only [Act.eval, Act.put, List.setIfInBounds_toArray, List.set_cons_zero, List.set_cons_succ, getD_lit, List.getD_cons_succ, List.getD_cons_zero, Value.cells] at hE)
        | ((with_reducible (show Go.wpList _ _ _ (Go.Oper.mk _ (.load _ _) _ _ _ _ :: _) _ _)); (first | (refine wpl_load1 hE 0 rfl rfl rfl rfl (by simp [go_sem]) rfl ?_) | (refine wpl_load1 hE 1 rfl rfl rfl rfl (by simp [go_sem]) rfl ?_) | (refine wpl_load1 hE 2 rfl rfl rfl rfl (by simp [go_sem]) rfl ?_) | (refine wpl_load1 hE 3 rfl rfl rfl rfl (by simp [go_sem]) rfl ?_) | (refine wpl_load1 hE 4 rfl rfl rfl rfl (by simp [go_sem]) rfl ?_) | (refine wpl_load1 hE 5 rfl rfl rfl rfl (by simp [go_sem]) rfl ?_) | (refine wpl_load1 hE 6 rfl rfl rfl rfl (by simp [go_sem]) rfl ?_) | (refine wpl_load1 hE 7 rfl rfl rfl rfl (by simp [go_sem]) rfl ?_)))
        | (go_at_call 86; refine (piecesK 6 _ _ _ hE).mono ?_; clear hE; rintro e w5 ⟨v, rfl, bl, bm, rfl, hE⟩))
      have hq0 : oo0 ++ ((level ks0).take 0).map putC = oo0 := by simp
      have HQ0 := SL.hid hq0
      clear hq0
      refine wpIn_wide.1 (wpIn_rangeSL (gf := 109) rfl (enters_of Tryd.func109 (by kernel_rfl) rfl) (pieces_iterK 6 (by omega) (by omega) al ks0.length cl hcl bl bm) (fun _ => rfl) (idI bx b2 b4 b5 b7 al cl cs.toArray ks0 oo0 l2) (fun _ _ => [ex fun _ : False => []]) ?e02
        ?act2 ?assign2 ?body2 ?done2 ?stop2)
      case e02 =>
        have h := Ent.pack (f := fun z : Option Addr × Nat => [pt b7 (.cells #[.slice z.1 ([] : List Kid).length z.2] 47), rowK z.1 z.2 []]) (none, 0) ((hE.nil 55 36).front 3 rfl)
        show Ent (pcStK 6 al ks0.length cl bl bm [] ++ (xOut bx (oo0 ++ ((level ks0).take 0).map putC) :: lvI b7 [] :: pt b2 (.cells #[.pointer (some ⟨bx, 0, none⟩)] 74) :: rowK al cl ks0 :: pt b5 (.cells #[.slice al ks0.length cl] 47) :: pt b4 (.cells cs.toArray 55 (0, 0)) :: l2)) _
        rw [HQ0.out]
        have h1 : Ent (lvI b7 [] :: pcStK 6 al ks0.length cl bl bm [] ++ (xOut bx oo0 :: pt b5 (.cells #[.slice al ks0.length cl] 47) :: rowK al cl ks0 :: pt b2 (.cells #[.pointer (some ⟨bx, 0, none⟩)] 74) :: pt b4 (.cells cs.toArray 55 (0, 0)) :: l2)) _ := h
        exact (((((((h1.front 7 rfl).front 5 rfl).front 6 rfl).front 7 rfl).front 4 rfl).front 7 rfl).front 7 rfl).front 7 rfl
      case assign2 =>
        intro lp x W K hK
        gi_wp2
        exact hK
      case stop2 =>
        intro D c pre W hpre hW
        obtain ⟨h, _⟩ := (hW.front 1 rfl).unpack
        exact h.elim
      case body2 =>
        intro lp pre x W L hpre hW
        obtain ⟨hk, hx⟩ := pcVs_at hpre
        obtain ⟨⟨ao, c⟩, hW'⟩ := (hW.front 1 rfl).unpack
        have Hst := SL.hid (level_take hk)
        have HtL := SL.hid (Kn_left (l := L) Ht2.out)
        have HfL := SL.hid (Kn_left (l := L) Hf2.out)
        have Hpc := SL.hid (fun (w : World) (hr : reads (.slice al ks0.length cl) ks0.length (kidCells ks0) w) => pcK_reads (fil_good Hfil.out) hk hcl hr)
        obtain ⟨Hlv, _, _⟩ := fil_step Hfil.out hlt
        have hin : Chunk.mk 2 [] (pcAt 6 ks0 pre.length) ∈ level ks0 := by
          have h1 := Hst.out
          have h2 : Chunk.mk 2 [] (pcAt 6 ks0 pre.length) ∈ (level ks0).take (pre.length + 1) := by rw [h1]; simp
          exact List.mem_of_mem_take h2
        have hlen : (level ks0).length ≤ 250 := by
          have h1 := fil_len Hfil.out
          have h2 := pcN_lt hlt
          rw [level_len]; omega
        obtain ⟨hm, hgd, _⟩ := Hlv _ hin
        have hsz : csize ⟨2, [], pcAt 6 ks0 pre.length⟩ < 4294967296 := by
          have e : csize ⟨2, [], pcAt 6 ks0 pre.length⟩ = sum1 (pcAt 6 ks0 pre.length) := by simp [csize]
          rw [e]
          obtain ⟨_, _, _, hs, _⟩ := Hfil.out
          refine Nat.lt_of_le_of_lt (sum1_mem ?_) hs
          rw [pcsL]
          exact List.mem_map.2 ⟨pre.length, List.mem_range.2 hk, rfl⟩
        obtain ⟨xa, xc, hxf, _⟩ := pcV_form (sz := 36) (m := 6) (ao := al) (k := pre.length) hcl
        rw [← hx] at hxf
        have hpl : min 6 (ks0.length - 6 * pre.length) = (pcAt 6 ks0 pre.length).length := by rw [pcAt, List.length_take, List.length_drop]
        rw [hpl] at hxf
        subst hxf
        rw [← hx] at Hpc
        have HI := SL.hid (show idI bx b2 b4 b5 b7 al cl cs.toArray ks0 oo0 l2 (pre ++ [.slice xa (pcAt 6 ks0 pre.length).length xc]) = xOut bx ((oo0 ++ ((level ks0).take pre.length).map putC) ++ [putC (Chunk.mk 2 [] (pcAt 6 ks0 pre.length))]) :: lvI b7 (((level ks0).take pre.length).map kidOf ++ [kidOf (Chunk.mk 2 [] (pcAt 6 ks0 pre.length))]) :: pt b2 (.cells #[.pointer (some ⟨bx, 0, none⟩)] 74) :: rowK al cl ks0 :: pt b5 (.cells #[.slice al ks0.length cl] 47) :: pt b4 (.cells cs.toArray 55 (0, 0)) :: l2 by
          have h1 := Hst.out
          simp only [idI, List.length_append, List.length_singleton, h1, List.map_append, List.map_cons, List.map_nil, List.append_assoc])
        have hbl : ((level ks0).take pre.length).length ≤ 250 := by rw [List.length_take]; omega
        have Hin := SL.hid (show idI bx b2 b4 b5 b7 al cl cs.toArray ks0 oo0 l2 pre = xOut bx (oo0 ++ ((level ks0).take pre.length).map putC) :: lvI b7 (((level ks0).take pre.length).map kidOf) :: pt b2 (.cells #[.pointer (some ⟨bx, 0, none⟩)] 74) :: rowK al cl ks0 :: pt b5 (.cells #[.slice al ks0.length cl] 47) :: pt b4 (.cells cs.toArray 55 (0, 0)) :: l2 from rfl)
        have hkl : (((level ks0).take pre.length).map kidOf).length ≤ 1000 := by rw [List.length_map]; omega
        have hol : (oo0 ++ ((level ks0).take pre.length).map putC).length ≤ 1000000000000 := by rw [List.length_append, List.length_map]; omega
        replace hW : Ent (xOut bx (oo0 ++ ((level ks0).take pre.length).map putC) :: pt b7 (.cells #[.slice ao (((level ks0).take pre.length).map kidOf).length c] 47) :: rowK ao c (((level ks0).take pre.length).map kidOf) :: pt b2 (.cells #[.pointer (some ⟨bx, 0, none⟩)] 74) :: rowK al cl ks0 :: pt b5 (.cells #[.slice al ks0.length cl] 47) :: pt b4 (.cells cs.toArray 55 (0, 0)) :: (l2 ++ L)) W := hW'.front 2 rfl
        clear hW' Hst Hin hbl hlen
        generalize oo0 ++ ((level ks0).take pre.length).map putC = oo at *
        generalize ((level ks0).take pre.length).map kidOf = ks at *
        generalize pcAt 6 ks0 pre.length = p at *
        have hkid := kidOf_good hsz
        have Hlen := SL.hid (kcells_len hkid)
        have Hone := SL.hid (kcells_one (kidOf (Chunk.mk 2 [] p)))
        have Hkx := SL.hid (show kidCells (ks ++ [kidOf (Chunk.mk 2 [] p)]) = kidCells ks ++ kcells (kidOf (Chunk.mk 2 [] p)) by simp [kidCells])
        have HX := SL.hid (fun (LL : List HProp) (w : World) (hl : (l2 ++ L) <:+ LL) (hkn : Knows LL (reads (.slice xa p.length xc) p.length (kidCells p))) (hE : Ent (xOut bx oo :: LL) w) =>
          show Calls Tryd.prog 54 #[.pointer (some ⟨bx, 0, none⟩), .agg #[.int .u8 2, .string ⟨#[]⟩, .slice xa p.length xc]] w
              (Ret fun v w' => v = .agg (kcells (kidOf (Chunk.mk 2 [] p))).toArray ∧ Ent (xOut bx (oo ++ [putC (Chunk.mk 2 [] p)]) :: LL) w') from put_any (u := 2) (data := []) hgd hm hsz hol (HtL.out.suf hl) (HfL.out.suf hl) hkn hE)
        clear hm hgd hsz hkid hpre hk hol hx
        generalize hkk : kidOf (Chunk.mk 2 [] p) = kk at *
        clear hkk
        generalize putC (Chunk.mk 2 [] p) = pb at *
        generalize hkx : kcells kk = kx at *
        clear hkx
        have hO := hW.drew
        gi_wp2
        refine wpIn_region_held_drew (S := (fun w' => (w'.cell? ⟨b2, 0, none⟩ = some (.pointer (some ⟨bx, 0, none⟩))))) rfl rfl rfl (by kernel_rfl) (by kernel_rfl) (cellV hO (by repeat (first | exact List.Mem.head _ | refine List.Mem.tail _ ?_)) rfl) (fun hS => ?_)
        refine tL 1 ⟨some 28, .load 74 (.tmp 2), _, _, _, none⟩ hS ?_
        refine tV 2 ⟨some 29, .move (.tmp 8), _, _, _, none⟩ hS ?_
        refine tV 3 ⟨some 30, .build 49 #[(0, .const (.int .u8 2)), (2, .tmp 29)], _, _, _, none⟩ hS ?_
        refine wpAnyH_ready (rs := [0, 4]) (by kernel_rfl) (by simp) ?_
        refine (AllReadyH.cons (o := ⟨some 27, .load 47 (.tmp 7), _, _, _, none⟩) rfl (fun K hK => ?_) (AllReadyH.cons (o := ⟨some 31, .call { callee := .value (.func 54), args := #[.tmp 28, .tmp 30], argTypes := #[74, 49] }, _, _, _, none⟩) rfl (fun K hK => ?_) AllReadyH.nil))
        focus
          (first | refine step_load1 hO 1 rfl rfl (by rfl) (by rfl) (by simp [go_sem]) rfl ?_ | refine step_load1 hO 2 rfl rfl (by rfl) (by rfl) (by simp [go_sem]) rfl ?_)
          refine hK.out _ _ (cellV hO (by repeat (first | exact List.Mem.head _ | refine List.Mem.tail _ ?_)) rfl) (fun hS => ?_)
          clear hK K
          try simp only [Act.put, sb, s0, sz]
          refine wpAnyH_ready (rs := [4]) (by kernel_rfl) (by simp) ?_
          refine (AllReadyH.cons (o := ⟨some 31, .call { callee := .value (.func 54), args := #[.tmp 28, .tmp 30], argTypes := #[74, 49] }, _, _, _, none⟩) rfl (fun K hK => ?_) AllReadyH.nil)
          (go_simp; refine (HX.out _ _ sfx (fun w h => Hpc.out w (reads_row h 3 rfl)) hO).mono ?_; clear hO; rintro e w5 ⟨v, h1, h2, hO⟩; cases h1; cases h2)
          refine hK.out _ _ (cellV hO (by repeat (first | exact List.Mem.head _ | refine List.Mem.tail _ ?_)) rfl) (fun hS => ?_)
          clear hK K
          try simp only [Act.put, sb, s0, sz]
          refine wpAnyH_ready (rs := [5]) (by kernel_rfl) (by simp) ?_
          refine (AllReadyH.cons (o := ⟨some 32, .buildSlice 47 1 #[(0, .tmp 31)], _, _, _, none⟩) rfl (fun K hK => ?_) AllReadyH.nil)
          (refine stp_build1 hO rfl (by rfl) (xs := kx) (by rfl) Tryd.underlying47 zs_kid Tryd.sizeOf55 (by decide) (by decide) Hlen.out ?_; clear hO; intro b9 w7 hO)
          refine hK.out _ _ (cellV hO (by repeat (first | exact List.Mem.head _ | refine List.Mem.tail _ ?_)) rfl) (fun hS => ?_)
          clear hK K
          try simp only [Act.put, sb, s0, sz]
          refine wpAnyH_ready (rs := [6]) (by kernel_rfl) (by simp) ?_
          refine (AllReadyH.cons (o := ⟨some 33, .call { callee := .builtin .append, args := #[.tmp 27, .tmp 32], argTypes := #[47, 47] }, _, _, _, none⟩) rfl (fun K hK => ?_) AllReadyH.nil)
          (refine step_appendG hO 3 rfl rfl (by rfl) (by rfl) (by rfl) Tryd.underlying47 info_kid (by decide) (m := 1) (news := kx) (reads_pt hO 0 rfl (off := 0) (fun j u hu => by rw [Nat.zero_add, List.getElem?_toArray]; exact hu)) (by rw [Hlen.out]) Hone.out (by omega) (by omega) ?_; clear hO; intro an cn w8 hO; simp only [List.set_cons_zero, List.set_cons_succ] at hO)
          refine hK.out _ _ (cellV hO (by repeat (first | exact List.Mem.head _ | refine List.Mem.tail _ ?_)) rfl) (fun hS => ?_)
          clear hK K
          try simp only [Act.put, sb, s0, sz]
          refine wpAnyH_ready (rs := [7]) (by kernel_rfl) (by simp) ?_
          refine (AllReadyH.cons (o := ⟨none, .store 47 (.tmp 7) (.tmp 33), _, _, _, none⟩) rfl (fun K hK => ?_) AllReadyH.nil)
          (refine stp_setC hO 2 rfl rfl (by rfl) (by rfl) (by rfl) Tryd.sizeOf47 rfl rfl (by simp) ?_; clear hO; intro w9 hO; simp only [List.set_cons_zero, List.set_cons_succ] at hO)
          refine hK.out _ _ (cellV hO (by repeat (first | exact List.Mem.head _ | refine List.Mem.tail _ ?_)) rfl) (fun hS => ?_)
          clear hK K
          try simp only [Act.put, sb, s0, sz]
          refine wpAnyH_done (by kernel_rfl) ?_ _
        rotate_right
        focus
          (go_simp; refine (HX.out _ _ sfx (fun w h => Hpc.out w (reads_row h 3 rfl)) hO).mono ?_; clear hO; rintro e w5 ⟨v, h1, h2, hO⟩; cases h1; cases h2)
          refine hK.out _ _ (cellV hO (by repeat (first | exact List.Mem.head _ | refine List.Mem.tail _ ?_)) rfl) (fun hS => ?_)
          clear hK K
          try simp only [Act.put, sb, s0, sz]
          refine wpAnyH_ready (rs := [0, 5]) (by kernel_rfl) (by simp) ?_
          refine (AllReadyH.cons (o := ⟨some 27, .load 47 (.tmp 7), _, _, _, none⟩) rfl (fun K hK => ?_) (AllReadyH.cons (o := ⟨some 32, .buildSlice 47 1 #[(0, .tmp 31)], _, _, _, none⟩) rfl (fun K hK => ?_) AllReadyH.nil))
          focus
            (first | refine step_load1 hO 1 rfl rfl (by rfl) (by rfl) (by simp [go_sem]) rfl ?_ | refine step_load1 hO 2 rfl rfl (by rfl) (by rfl) (by simp [go_sem]) rfl ?_)
            refine hK.out _ _ (cellV hO (by repeat (first | exact List.Mem.head _ | refine List.Mem.tail _ ?_)) rfl) (fun hS => ?_)
            clear hK K
            try simp only [Act.put, sb, s0, sz]
            refine wpAnyH_ready (rs := [5]) (by kernel_rfl) (by simp) ?_
            refine (AllReadyH.cons (o := ⟨some 32, .buildSlice 47 1 #[(0, .tmp 31)], _, _, _, none⟩) rfl (fun K hK => ?_) AllReadyH.nil)
            (refine stp_build1 hO rfl (by rfl) (xs := kx) (by rfl) Tryd.underlying47 zs_kid Tryd.sizeOf55 (by decide) (by decide) Hlen.out ?_; clear hO; intro b9 w7 hO)
            refine hK.out _ _ (cellV hO (by repeat (first | exact List.Mem.head _ | refine List.Mem.tail _ ?_)) rfl) (fun hS => ?_)
            clear hK K
            try simp only [Act.put, sb, s0, sz]
            refine wpAnyH_ready (rs := [6]) (by kernel_rfl) (by simp) ?_
            refine (AllReadyH.cons (o := ⟨some 33, .call { callee := .builtin .append, args := #[.tmp 27, .tmp 32], argTypes := #[47, 47] }, _, _, _, none⟩) rfl (fun K hK => ?_) AllReadyH.nil)
            (refine step_appendG hO 3 rfl rfl (by rfl) (by rfl) (by rfl) Tryd.underlying47 info_kid (by decide) (m := 1) (news := kx) (reads_pt hO 0 rfl (off := 0) (fun j u hu => by rw [Nat.zero_add, List.getElem?_toArray]; exact hu)) (by rw [Hlen.out]) Hone.out (by omega) (by omega) ?_; clear hO; intro an cn w8 hO; simp only [List.set_cons_zero, List.set_cons_succ] at hO)
            refine hK.out _ _ (cellV hO (by repeat (first | exact List.Mem.head _ | refine List.Mem.tail _ ?_)) rfl) (fun hS => ?_)
            clear hK K
            try simp only [Act.put, sb, s0, sz]
            refine wpAnyH_ready (rs := [7]) (by kernel_rfl) (by simp) ?_
            refine (AllReadyH.cons (o := ⟨none, .store 47 (.tmp 7) (.tmp 33), _, _, _, none⟩) rfl (fun K hK => ?_) AllReadyH.nil)
            (refine stp_setC hO 2 rfl rfl (by rfl) (by rfl) (by rfl) Tryd.sizeOf47 rfl rfl (by simp) ?_; clear hO; intro w9 hO; simp only [List.set_cons_zero, List.set_cons_succ] at hO)
            refine hK.out _ _ (cellV hO (by repeat (first | exact List.Mem.head _ | refine List.Mem.tail _ ?_)) rfl) (fun hS => ?_)
            clear hK K
            try simp only [Act.put, sb, s0, sz]
            refine wpAnyH_done (by kernel_rfl) ?_ _
          rotate_right
          focus
            (refine stp_build1 hO rfl (by rfl) (xs := kx) (by rfl) Tryd.underlying47 zs_kid Tryd.sizeOf55 (by decide) (by decide) Hlen.out ?_; clear hO; intro b9 w7 hO)
            refine hK.out _ _ (cellV hO (by repeat (first | exact List.Mem.head _ | refine List.Mem.tail _ ?_)) rfl) (fun hS => ?_)
            clear hK K
            try simp only [Act.put, sb, s0, sz]
            refine wpAnyH_ready (rs := [0]) (by kernel_rfl) (by simp) ?_
            refine (AllReadyH.cons (o := ⟨some 27, .load 47 (.tmp 7), _, _, _, none⟩) rfl (fun K hK => ?_) AllReadyH.nil)
            (first | refine step_load1 hO 1 rfl rfl (by rfl) (by rfl) (by simp [go_sem]) rfl ?_ | refine step_load1 hO 2 rfl rfl (by rfl) (by rfl) (by simp [go_sem]) rfl ?_)
            refine hK.out _ _ (cellV hO (by repeat (first | exact List.Mem.head _ | refine List.Mem.tail _ ?_)) rfl) (fun hS => ?_)
            clear hK K
            try simp only [Act.put, sb, s0, sz]
            refine wpAnyH_ready (rs := [6]) (by kernel_rfl) (by simp) ?_
            refine (AllReadyH.cons (o := ⟨some 33, .call { callee := .builtin .append, args := #[.tmp 27, .tmp 32], argTypes := #[47, 47] }, _, _, _, none⟩) rfl (fun K hK => ?_) AllReadyH.nil)
            (refine step_appendG hO 3 rfl rfl (by rfl) (by rfl) (by rfl) Tryd.underlying47 info_kid (by decide) (m := 1) (news := kx) (reads_pt hO 0 rfl (off := 0) (fun j u hu => by rw [Nat.zero_add, List.getElem?_toArray]; exact hu)) (by rw [Hlen.out]) Hone.out (by omega) (by omega) ?_; clear hO; intro an cn w8 hO; simp only [List.set_cons_zero, List.set_cons_succ] at hO)
            refine hK.out _ _ (cellV hO (by repeat (first | exact List.Mem.head _ | refine List.Mem.tail _ ?_)) rfl) (fun hS => ?_)
            clear hK K
            try simp only [Act.put, sb, s0, sz]
            refine wpAnyH_ready (rs := [7]) (by kernel_rfl) (by simp) ?_
            refine (AllReadyH.cons (o := ⟨none, .store 47 (.tmp 7) (.tmp 33), _, _, _, none⟩) rfl (fun K hK => ?_) AllReadyH.nil)
            (refine stp_setC hO 2 rfl rfl (by rfl) (by rfl) (by rfl) Tryd.sizeOf47 rfl rfl (by simp) ?_; clear hO; intro w9 hO; simp only [List.set_cons_zero, List.set_cons_succ] at hO)
            refine hK.out _ _ (cellV hO (by repeat (first | exact List.Mem.head _ | refine List.Mem.tail _ ?_)) rfl) (fun hS => ?_)
            clear hK K
            try simp only [Act.put, sb, s0, sz]
            refine wpAnyH_done (by kernel_rfl) ?_ _
        all_goals
          refine onlyN_n ?_
          gi_wp2
          have hF := (hO.tail.front 2 rfl).front 2 rfl
          have q1 : (ks ++ [kk]).length = ks.length + 1 := by simp
          have hG := Ent.pack (f := fun z : Option Addr × Nat => [pt b7 (.cells #[.slice z.1 (ks ++ [kk]).length z.2] 47), rowK z.1 z.2 (ks ++ [kk])]) (an, cn) (by simp only [rowK, q1, Hkx.out]; exact hF)
          show Ent (idI bx b2 b4 b5 b7 al cl cs.toArray ks0 oo0 l2 (pre ++ [_]) ++ L) _
          rw [HI.out]
          exact hG.front 1 rfl

      case done2 =>
        intro D W hW
        rw [idI, pcVs_len, ← level_len, List.take_length] at hW
        obtain ⟨_, _, f', hfil2⟩ := fil_step Hfil.out hlt
        have hll : ((level ks0).map kidOf).length < ks0.length := by rw [List.length_map, level_len]; exact pcN_lt hlt
        have HF := SL.hid hfil2
        have HL := SL.hid hll
        have Ho2 := SL.hid (show oo0 ++ (level ks0).map putC = out ++ (dn ++ level ks0).map putC by rw [Hoo0.out]; simp)
        obtain ⟨⟨a2, c2⟩, hW'⟩ := (hW.front 2 rfl).unpack
        have hE : Ent (pt b7 (.cells #[.slice a2 ((level ks0).map kidOf).length c2] 47) :: rowK a2 c2 ((level ks0).map kidOf) :: ptD D :: xOut bx (oo0 ++ (level ks0).map putC) :: pt b2 (.cells #[.pointer (some ⟨bx, 0, none⟩)] 74) :: rowK al cl ks0 :: pt b5 (.cells #[.slice al ks0.length cl] 47) :: pt b4 (.cells cs.toArray 55 (0, 0)) :: l2) W := hW'
        clear hW' hW hfil2 hll hd1 hd2
        generalize (level ks0).map kidOf = ks2 at *
        generalize oo0 ++ (level ks0).map putC = oo2 at *
        go_wp2_with (first
          | go_skip
          | ((with_reducible (show Go.wpList _ _ _ (Go.Oper.mk _ (.load _ _) _ _ _ _ :: _) _ _)); refine wpl_load1 hE 0 rfl rfl rfl rfl (by simp [go_sem]) rfl ?_)
          | ((with_reducible (show Go.wpList _ _ _ (Go.Oper.mk _ (.store _ _ _) _ _ _ _ :: _) _ _)); refine wpl_st1 hE 6 rfl rfl rfl rfl rfl Tryd.sizeOf47 rfl rfl (by simp) ?_; clear hE; intro w9 hE; simp only [List.set_cons_zero, List.set_cons_succ] at hE))
        have hm := hE.cell 6 rfl 0
        have hG := Ent.pack (f := fun z : Option Addr × Nat => [pt b5 (.cells #[.slice z.1 ks2.length z.2] 47), rowK z.1 z.2 ks2]) (a2, c2) ((hE.tail.erase 4).front 4 rfl)
        have hP : Ent (ptD D :: xOut bx oo2 :: lvI b5 ks2 :: pt b2 (.cells #[.pointer (some ⟨bx, 0, none⟩)] 74) :: pt b4 (.cells cs.toArray 55 (0, 0)) :: (lB ++ Ds.map ptD)) w9 := by
          rw [← Hl2.out]
          exact (hG.front 2 rfl).front 2 rfl
        refine ⟨⟨D :: Ds, _, _, _, f', ks2, rfl, rfl, rfl, HF.out, ?_⟩, ?_⟩
        · rw [← Ho2.out]
          exact hP.perm (List.perm_middle (a := ptD D) (l₁ := xOut bx oo2 :: lvI b5 ks2 :: pt b2 (.cells #[.pointer (some ⟨bx, 0, none⟩)] 74) :: pt b4 (.cells cs.toArray 55 (0, 0)) :: lB) (l₂ := Ds.map ptD)).symm
        · rw [Hsl.out, sliceLeft_eq hm]
          exact HL.out
    · obtain ⟨kk, rfl, hfe, hgk⟩ := fil_end hfil hlt
      have hkc : kidCells [kk] = kcells kk := by simp [kidCells]
      have hl36 := kcells_len hgk
      obtain ⟨b, off, rfl, hz⟩ := reads_form (reads_row hE 2 rfl) (by simp) (by rw [hkc, hl36]; omega)
      rw [hkc] at hz
      have Hlen := SL.hid hl36
      have Hone := SL.hid (kcells_one kk)
      have Hz := SL.hid hz
      have Hfe := SL.hid hfe
      have Hv := SL.hid (show Value.agg (kcells (fileC data).2).toArray = .agg (kcells kk).toArray by rw [hfe])
      replace hE : Ent (xOut bx (out ++ dn.map putC) :: pt b5 (.cells #[.slice (some ⟨b, off, none⟩) 1 cl] 47) :: rowK (some ⟨b, off, none⟩) cl [kk] :: pt b2 (.cells #[.pointer (some ⟨bx, 0, none⟩)] 74) :: pt b4 (.cells cs.toArray 55 (0, 0)) :: (lB ++ Ds.map ptD)) w := hE
      clear hz hkc hl36 hgk hfe hfil hlt Hfil Hsl hcl hoo
      generalize hkx : kcells kk = kx at *
      clear hkx
      go_wp2_with (first
        | go_skip
        | ((with_reducible (show Go.wpList _ _ _ (Go.Oper.mk _ (.load 55 _) _ _ _ _ :: _) _ _)); refine wpl_loadC rfl rfl rfl Tryd.isAgg55 Tryd.sizeOf55 kx Hlen.out (fun j v hv => by rw [Addr.add_lit]; exact Hz.out j v hv) ?_)
        | ((with_reducible (show Go.wpList _ _ _ (Go.Oper.mk _ (.load _ _) _ _ _ _ :: _) _ _)); (first | (refine wpl_load1 hE 0 rfl rfl rfl rfl (by simp [go_sem]) rfl ?_) | (refine wpl_load1 hE 1 rfl rfl rfl rfl (by simp [go_sem]) rfl ?_) | (refine wpl_load1 hE 2 rfl rfl rfl rfl (by simp [go_sem]) rfl ?_) | (refine wpl_load1 hE 3 rfl rfl rfl rfl (by simp [go_sem]) rfl ?_) | (refine wpl_load1 hE 4 rfl rfl rfl rfl (by simp [go_sem]) rfl ?_) | (refine wpl_load1 hE 5 rfl rfl rfl rfl (by simp [go_sem]) rfl ?_) | (refine wpl_load1 hE 6 rfl rfl rfl rfl (by simp [go_sem]) rfl ?_) | (refine wpl_load1 hE 7 rfl rfl rfl rfl (by simp [go_sem]) rfl ?_)))
        | ((with_reducible (show Go.wpList _ _ _ (Go.Oper.mk _ (.store _ _ _) _ _ _ _ :: _) _ _)); refine wpl_storeW hE 4 rfl rfl rfl (xs := kx) rfl rfl Tryd.sizeOf55 Hlen.out Hone.out (by simpa using Hq.out) ?_; clear hE; intro w9 hE; simp only [List.set_cons_zero, List.set_cons_succ] at hE))
      refine post_marks (Ds := Ds) (l := xOut bx (out ++ dn.map putC) :: pt b5 (.cells #[.slice (some ⟨b, off, none⟩) 1 cl] 47) :: rowK (some ⟨b, off, none⟩) cl [kk] :: pt b2 (.cells #[.pointer (some ⟨bx, 0, none⟩)] 74) :: pt b4 (.cells kx.toArray 55 (0, 0)) :: lB) rfl (hE.perm (List.perm_append_comm (l₁ := _ :: _ :: _ :: _ :: _ :: lB))) (fun w' hw' => ⟨_, results_cellA rfl hw' 4 rfl rfl Tryd.isAgg55 Tryd.sizeOf55 Hlen.out, _, rfl, Hv.out.symm, ?_⟩)
      have hG : Ent (xOut bx (out ++ dn.map putC) :: lB) w' := (((hw'.erase 1).erase 1).erase 1).erase 1
      refine Hlast.out _ ?_
      rw [Hfe.out]
      exact hG
end Go.Proofs.YtehfbokkcamliaaDoor
namespace Go.Proofs.YtehfbokkcamliaaDoor
open Go.RowKit Go.SL

/-- a directory's chunks, if those of its kids are known -/
def dirC (g : Tr → List Chunk × Kid) (t : Tr) : List Chunk × Kid :=
  (t.kids.flatMap (fun k => (g k.2).1) ++ [⟨3, [], t.kids.map fun k => dirKid k.1 k.2 (g k.2).2⟩], kidOf ⟨3, [], t.kids.map fun k => dirKid k.1 k.2 (g k.2).2⟩)
theorem nodeC_dir {d : Nat} {t : Tr} (h : t.dir = true) : nodeC (d + 1) t = dirC (nodeC d) t := by rw [nodeC, if_pos h]; rfl
theorem nodeC_dir0 {t : Tr} (h : t.dir = true) (hk : t.kids = []) (g : Tr → List Chunk × Kid) : nodeC 0 t = dirC g t := by rw [nodeC, if_pos h, dirC, hk]; rfl
theorem nodeC_file {d : Nat} {t : Tr} (h : t.dir = false) : nodeC d t = fileC t.data := by
  cases d <;> rw [nodeC, if_neg (by rw [h]; simp)]
/-- kids that a directory may have -/
structure DirOk (g : Tr → List Chunk × Kid) (t : Tr) : Prop where
  six : t.kids.length ≤ 6
  name : ∀ x ∈ t.kids, isName x.1 = true
  rise : Rising t.names
  data : ∀ x ∈ t.kids, x.2.data.length ≤ 8192
  kid : ∀ x ∈ t.kids, (g x.2).2.good ∧ (g x.2).2.height.toNat ≤ 250
theorem dirKid_good {n : List UInt8} {t : Tr} {k : Kid} (hk : k.good) (hd : t.data.length ≤ 8192) : (dirKid n t k).good := ⟨hk.1, by show t.data.length < _; omega⟩
theorem DirOk.may {g : Tr → List Chunk × Kid} {t : Tr} (h : DirOk g t) : mayC ⟨3, [], t.kids.map fun k => dirKid k.1 k.2 (g k.2).2⟩ = true ∧ (Chunk.mk 3 [] (t.kids.map fun k => dirKid k.1 k.2 (g k.2).2)).good := by
  refine ⟨may_dir (h := 250) (by rw [List.length_map]; exact h.six) ?_ ?_ ?_ (by omega), ?_⟩
  · intro k hk
    rw [List.mem_map] at hk
    obtain ⟨x, hx, rfl⟩ := hk
    exact isName_len (h.name x hx)
  · have e : (t.kids.map fun k => dirKid k.1 k.2 (g k.2).2).map Kid.name = t.names := by
      rw [List.map_map]; rfl
    rw [e]
    exact h.rise
  · intro k hk
    rw [List.mem_map] at hk
    obtain ⟨x, hx, rfl⟩ := hk
    exact (h.kid x hx).2
  · intro k hk
    obtain ⟨x, hx, rfl⟩ := List.mem_map.1 hk
    exact dirKid_good (h.kid x hx).1 (h.data x hx)
theorem file_len (d : List UInt8) (hd : d.length ≤ 50000) : (fileC d).1.length ≤ 70000 := by
  have go : ∀ (f : Nat) (ks : List Kid), ks.length ≤ 250 → (tower f ks).1.length ≤ f * 250 := by
    intro f
    induction f with
    | zero => intro ks _; simp [tower]
    | succ f ih =>
      intro ks hk
      unfold tower
      split
      · simp
      · have h1 : (level ks).length ≤ 250 := by rw [level_len]; unfold pcN; omega
        have := ih ((level ks).map kidOf) (by rw [List.length_map]; exact h1)
        rw [List.length_append]
        omega
  have hb : (blobs d).length ≤ 240 := by rw [blobs_len]; unfold pcN; omega
  have := go (blobs d).length ((blobs d).map kidOf) (by rw [List.length_map]; omega)
  rw [fileC, List.length_append]
  omega
theorem dir_hgt {g : Tr → List Chunk × Kid} {t : Tr} {h : Nat} (hh : ∀ x ∈ t.kids, (g x.2).2.height.toNat ≤ h) : hgt ⟨3, [], t.kids.map fun k => dirKid k.1 k.2 (g k.2).2⟩ ≤ h + 1 := by
  have e : ∀ ks : List Kid, hgt ⟨3, [], ks⟩ = hgt1 ks := fun ks => by simp [hgt, isTree]
  rw [e]
  refine hgt1_bound fun k hk => ?_
  obtain ⟨x, hx, rfl⟩ := List.mem_map.1 hk
  exact hh x hx
theorem flat_len {α β : Type} (f : α → List β) (B : Nat) : ∀ l : List α, (∀ x ∈ l, (f x).length ≤ B) → (l.flatMap f).length ≤ l.length * B
  | [], _ => by simp
  | x :: l, h => by
    have h1 := h x (List.mem_cons_self ..)
    have h2 := flat_len f B l fun y hy => h y (List.mem_cons_of_mem _ hy)
    rw [List.flatMap_cons, List.length_append, List.length_cons, Nat.add_mul]
    omega
/-- what is known of a tree's chunks -/
theorem node_fit : ∀ (d : Nat) (t : Tr), d ≤ 6 → Tr.Wf d t → (nodeC d t).2.good ∧ (nodeC d t).2.height.toNat ≤ 241 + d ∧ (nodeC d t).1.length ≤ 70001 * 7 ^ d
  | 0, t, _, h => by
    cases hd : t.dir with
    | false =>
      rw [nodeC_file hd]
      have a := file_fit t.data (by have := h.2.2; omega)
      have b := file_len t.data (by have := h.2.2; omega)
      exact ⟨a.2.2.2, by omega, by omega⟩
    | true =>
      rw [nodeC_dir0 hd h.1 (nodeC 0), dirC, h.1]
      exact ⟨kidOf_good (by decide), by decide +kernel, by simp⟩
  | d + 1, t, h6, h => by
    cases hd : t.dir with
    | false =>
      rw [nodeC_file hd]
      have a := file_fit t.data (by have := h.2.2.2.2.1; omega)
      have b := file_len t.data (by have := h.2.2.2.2.1; omega)
      have c : 1 ≤ 7 ^ (d + 1) := Nat.pow_pos (by omega)
      exact ⟨a.2.2.2, by omega, by omega⟩
    | true =>
      have ih : ∀ x ∈ t.kids, (nodeC d x.2).2.good ∧ (nodeC d x.2).2.height.toNat ≤ 241 + d ∧ (nodeC d x.2).1.length ≤ 70001 * 7 ^ d := fun x hx => node_fit d x.2 (by omega) (h.2.2.2.2.2 x hx).2
      rw [nodeC_dir hd]
      have hh := dir_hgt (g := nodeC d) (t := t) (h := 241 + d) fun x hx => (ih x hx).2.1
      have hs : csize ⟨3, [], t.kids.map fun k => dirKid k.1 k.2 (nodeC d k.2).2⟩ < 4294967296 := by simp [csize]
      refine ⟨kidOf_good hs, ?_, ?_⟩
      · show (kidOf _).height.toNat ≤ _
        rw [kidOf_height (by omega)]
        omega
      · have h1 := flat_len (fun k : List UInt8 × Tr => (nodeC d k.2).1) (70001 * 7 ^ d) t.kids fun x hx => (ih x hx).2.2
        have h2 : t.kids.length * (70001 * 7 ^ d) ≤ 6 * (70001 * 7 ^ d) := Nat.mul_le_mul_right _ h.2.2.2.1
        have c : 1 ≤ 7 ^ d := Nat.pow_pos (by omega)
        have e : 7 ^ (d + 1) = 7 * 7 ^ d := by rw [Nat.pow_succ]; omega
        rw [dirC, List.length_append, List.length_singleton, e]
        omega
theorem dir_ok {d : Nat} {t : Tr} (h6 : d ≤ 6) (h : Tr.Wf (d + 1) t) : DirOk (nodeC d) t :=
  ⟨h.2.2.2.1, fun x hx => (h.2.2.2.2.2 x hx).1, h.2.2.1, fun x hx => by
    have := (h.2.2.2.2.2 x hx).2
    cases d with
    | zero => exact this.2.2
    | succ d => exact this.2.2.2.2.1, fun x hx => by
    have := node_fit d x.2 h6 (h.2.2.2.2.2 x hx).2
    exact ⟨this.1, by omega⟩⟩
theorem dir_ok0 {t : Tr} (h : t.kids = []) (g : Tr → List Chunk × Kid) : DirOk g t := by
  refine ⟨by simp [h], ?_, ?_, ?_, ?_⟩
  · rw [h]; intro x hx; cases hx
  · intro i hi; simp [Tr.names, h] at hi
  · rw [h]; intro x hx; cases hx
  · rw [h]; intro x hx; cases hx
end Go.Proofs.YtehfbokkcamliaaDoor
namespace Go.SL
section
variable {P : Program} {ops : Array Oper} {rest : List Oper} {o : Oper} {a : Act} {Q : Exit → Act → World → Prop} {w : World} {l : List HProp}

theorem set_id {α : Type} {l : List α} {i : Nat} {x : α} (h : l[i]? = some x) : l.set i x = l := by
  obtain ⟨hi, rfl⟩ := List.getElem?_eq_some_iff.1 h
  exact List.set_getElem_self hi
theorem run_copyK (w : World) (dT sT ty elem : TypeId) {size : Nat} (g off dLen dCap : Nat) (ad : Addr) (n c : Nat) (cur : Array Value) (t : TypeId) (xs : List Value)
    (hu : P.underlying dT = some (.slice elem)) (hs : (P.info? elem).map (·.size) = some size) (hg : w.heap[g]? = some (.cells cur t (0, 0)))
    (hn : n ≤ dLen) (hx : xs.length = n * size) (hsrc : ∀ j v, xs[j]? = some v → w.cell? (ad.add j) = some v) (hfit : off + xs.length ≤ cur.size) (h1 : ∀ v ∈ xs, v.oneCell' = true) :
    (Builtin.copy_ #[dT, sT] ty #[.slice (some ⟨g, off, none⟩) dLen dCap, .slice (some ad) n c]).run P w =
      .ok (goInt n) (w.setRow g (cur.toList.take off ++ xs ++ cur.toList.drop (off + xs.length)).toArray) := by
  have hl := run_loadCells_list (P := P) w ad xs hsrc
  have hst := run_storeCells_at P g off t xs 0 cur w hg (by simpa using hfit) h1
  have hm : Nat.min n dLen = n := Nat.min_eq_left hn
  cases hq : P.info? elem with
  | none => simp [hq] at hs
  | some i =>
    have hi : i.size = size := by simpa [hq] using hs
    rw [hx] at hl
    simp [Builtin.copy_, run_underlying hu, Builtin.lenOf, Builtin.firstCells, sizeOf, typeInfo, hq, hi, hm, hl, hst]
theorem run_copyK0 (w : World) (dT sT ty elem : TypeId) {size : Nat} (d s : Option Addr) (dLen dCap n c : Nat) (hu : P.underlying dT = some (.slice elem)) (hs : (P.info? elem).map (·.size) = some size) (hn : n = 0) :
    (Builtin.copy_ #[dT, sT] ty #[.slice d dLen dCap, .slice s n c]).run P w = .ok (goInt 0) w := by
  subst hn
  cases hq : P.info? elem with
  | none => simp [hq] at hs
  | some i =>
    have hl : ∀ (x : Addr), (loadCells x 0).run P w = .ok #[] w := fun x => by simpa using run_loadCells_list (P := P) w x [] (by simp)
    cases d <;> cases s <;> simp [Builtin.copy_, run_underlying hu, Builtin.lenOf, Builtin.firstCells, sizeOf, typeInfo, hq, storeCells, hl]

/-- elements copied into an owned row, from element j on -/
theorem Ent.copyRow (hE : Ent l w) (i : Nat) {e : TypeId} {size n c g : Nat} {xs : List Value} (hi : l[i]? = some (row e size (.slice (some ⟨g, 0, none⟩) n c) n xs)) {dT sT : TypeId} (ty : TypeId)
    (hu : P.underlying dT = some (.slice e)) (hs : (P.info? e).map (·.size) = some size) {m : Nat} {v : Value} {ys : List Value} (hr : reads v m ys w) (hy : ys.length = m * size) (h1 : ∀ u ∈ ys, u.oneCell' = true)
    {j : Nat} (dLen dCap : Nat) (hm : m ≤ dLen) (hfit : j + m ≤ n) :
    ∃ w', (Builtin.copy_ #[dT, sT] ty #[.slice (cutAt size (some ⟨g, 0, none⟩) c j) dLen dCap, v]).run P w = .ok (goInt m) w' ∧ Ent (l.set i (row e size (.slice (some ⟨g, 0, none⟩) n c) n (splice xs (j * size) ys))) w' := by
  have hl : i < l.length := (List.getElem?_eq_some_iff.1 hi).1
  have hxs : xs.length = n * size := (hE.owns i hi).1
  obtain ⟨ao, cc, rfl, hnone, hc⟩ := hr
  by_cases h0 : m = 0
  · have hys : ys = [] := List.eq_nil_of_length_eq_zero (by rw [hy, h0]; simp)
    subst h0 hys
    refine ⟨w, run_copyK0 w dT sT ty e _ ao dLen dCap 0 cc hu hs rfl, ?_⟩
    have : splice xs (j * size) [] = xs := by simp [splice]
    rw [this, set_id hi]
    exact hE
  · obtain ⟨g', cap, cur, hv', hn1, hm1, hs1, ht1, hE1⟩ : ∃ (g' cap : Nat) (cur : Array Value), Value.slice (some ⟨g, 0, none⟩) n c = .slice (some ⟨g', 0, none⟩) n cap ∧ n ≤ cap ∧ cap ≤ maxLen ∧ cur.size = cap * size ∧ cur.toList.take (n * size) = xs ∧ Ent (l.set i (pt g' (.cells cur e (0, 0)))) w := hE.fromRow i hi (by omega)
    cases hv'
    cases ao with
    | none => exact absurd (hnone rfl).1 h0
    | some ad =>
      have hcut : cutAt size (some ⟨g, 0, none⟩) c j = some ⟨g, j * size, none⟩ := by
        unfold cutAt
        rw [if_neg (by omega)]
        simp [Addr.add_lit]
      have hcs : j * size + ys.length ≤ cur.size := by
        rw [hs1, hy, ← Nat.add_mul]
        exact Nat.mul_le_mul_right _ (by omega)
      have hxfit : j * size + ys.length ≤ xs.length := by
        rw [hxs, hy, ← Nat.add_mul]
        exact Nat.mul_le_mul_right _ hfit
      have hrun := run_copyK (P := P) w dT sT ty e g (j * size) dLen dCap ad m cc cur e ys hu hs (hE1.at i (by simp [hl])) hm hy (hc ad rfl) hcs h1
      rw [hcut]
      refine ⟨_, hrun, ?_⟩
      have hE2 := hE1.setRow i (b := g) (cs := cur) (T := e) (fz := (0, 0)) (by simp [hl]) (splice cur.toList (j * size) ys).toArray
      rw [List.set_set] at hE2
      have hE3 := hE2.toRow i (b := g) (cs := (splice cur.toList (j * size) ys).toArray) (e := e) (by simp [hl]) (size := size) (n := n) (cap := c) (xs := splice xs (j * size) ys) (by rw [splice_length _ _ _ hxfit, hxs]) hn1 hm1
        (by simp only [List.size_toArray]; rw [splice_length _ _ _ (by simpa using hcs)]; simpa using hs1)
        (by rw [← ht1]; exact take_put _ _ _ _ (by rw [hxs] at hxfit; exact hxfit) (by simp only [Array.length_toList]; rw [hs1]; exact Nat.mul_le_mul_right _ hn1))
      rw [List.set_set] at hE3
      have e2 : splice cur.toList (j * size) ys = cur.toList.take (j * size) ++ ys ++ cur.toList.drop (j * size + ys.length) := by unfold splice; rfl
      rw [← e2]
      exact hE3
theorem wpl_copyK (hE : Ent l w) (i : Nat) {e : TypeId} {size n c g : Nat} {xs : List Value} (hi : l[i]? = some (row e size (.slice (some ⟨g, 0, none⟩) n c) n xs)) {d s : Operand} {dT sT : TypeId}
    (ho : o.op = .call { callee := .builtin .copy, args := #[d, s], argTypes := #[dT, sT] }) (hw : Region.wanted o (yielded ops a.tmps) = true)
    {j dLen dCap : Nat} (hd : a.eval d = .slice (cutAt size (some ⟨g, 0, none⟩) c j) dLen dCap) {v : Value} (hy : a.eval s = v)
    (hu : P.underlying dT = some (.slice e)) (hs : (P.info? e).map (·.size) = some size) {m : Nat} {ys : List Value} (hr : reads v m ys w) (hyl : ys.length = m * size) (h1 : ∀ u ∈ ys, u.oneCell' = true) (hm : m ≤ dLen) (hfit : j + m ≤ n)
    (h : ∀ w', Ent (l.set i (row e size (.slice (some ⟨g, 0, none⟩) n c) n (splice xs (j * size) ys))) w' → wpList P ops Q rest (a.put o.dst (goInt m)) w') : wpList P ops Q (o :: rest) a w := by
  obtain ⟨w', hr0, hE'⟩ := hE.copyRow (P := P) (sT := sT) i hi o.type hu hs hr hyl h1 (j := j) dLen dCap hm hfit
  refine wpl_run hw (w' := w') (v := goInt m) ?_ (h w' hE')
  simp [execOp, ho, resolve, invoke, builtin, hd, hy, hr0]
end
/-- a part of a row that is read: the first so many elements, and those behind -/
theorem reads_first {ao : Option Addr} {n c size : Nat} {xs : List Value} {w : World} (hr : reads (.slice ao n c) n xs w) {k : Nat} (hk : k ≤ n) : reads (.slice ao k c) k (xs.take (k * size)) w := by
  obtain ⟨ao', c', e, h1, h2⟩ := hr
  cases e
  refine ⟨ao, c, rfl, fun h => ?_, fun ad had j u hu => ?_⟩
  · obtain ⟨h3, h4⟩ := h1 h
    rw [h4]
    exact ⟨by omega, by simp⟩
  · refine h2 ad had j u ?_
    rw [List.getElem?_take] at hu
    split at hu
    · exact hu
    · cases hu
theorem cut_zero (size : Nat) (ao : Option Addr) (c : Nat) : cutAt size ao c 0 = ao := by
  unfold cutAt
  split
  · rfl
  · cases ao with
    | none => rfl
    | some a => simp [Addr.add]
theorem reads_behind {ao : Option Addr} {n c size : Nat} {xs : List Value} {w : World} (hr : reads (.slice ao n c) n xs w) (hx : xs.length = n * size) (hc : n ≤ c) {k : Nat} (hk : k ≤ n) : reads (.slice (cutAt size ao c k) (n - k) (c - k)) (n - k) (xs.drop (k * size)) w := by
  have h := reads_cut (size := size) hr hx hk (Nat.le_refl n) hc
  rwa [List.take_of_length_le (by rw [List.length_drop, hx, Nat.sub_mul]; omega)] at h
/-- parts put side by side -/
theorem splice_ins {z A B N : List Value} (hz : z.length = A.length + N.length + B.length) : splice (splice (splice z 0 A) (A.length + N.length) B) A.length N = A ++ N ++ B := by
  have h1 : (splice z 0 A).length = z.length := splice_length _ _ _ (by omega)
  have h2 : (splice (splice z 0 A) (A.length + N.length) B).length = z.length := by rw [splice_length _ _ _ (by omega), h1]
  apply List.ext_getElem?
  intro j
  rw [splice_get _ _ _ _ (by omega), splice_get _ _ _ _ (by omega), splice_get _ _ _ _ (by omega), List.append_assoc]
  by_cases a1 : j < A.length
  · rw [if_pos a1, if_pos (by omega), if_neg (by omega), if_pos (by omega), Nat.sub_zero, List.getElem?_append_left a1]
  · rw [if_neg a1, List.getElem?_append_right (by omega)]
    by_cases a2 : j < A.length + N.length
    · rw [if_pos a2, List.getElem?_append_left (by omega)]
    · rw [if_neg a2, if_neg a2, List.getElem?_append_right (by omega)]
      by_cases a3 : j < A.length + N.length + B.length
      · rw [if_pos a3]; congr 1; omega
      · rw [if_neg a3, if_neg (by omega), if_neg (by omega), List.getElem?_eq_none (by omega), List.getElem?_eq_none (by omega)]
theorem splice_all {z A B : List Value} (hz : z.length = A.length + B.length) : splice (splice z 0 A) A.length B = A ++ B := by
  have h := splice_ins (z := z) (A := A) (N := []) (B := B) (by simpa using hz)
  simp only [List.length_nil, Nat.add_zero, List.append_nil] at h
  have h1 : (splice z 0 A).length = z.length := splice_length _ _ _ (by omega)
  have e : ∀ y : List Value, splice y A.length [] = y := fun y => by simp [splice]
  rwa [e] at h
theorem splice_mid (A X N B : List Value) (h : X.length = N.length) : splice (A ++ (X ++ B)) A.length N = A ++ (N ++ B) := by
  unfold splice
  rw [List.take_left, ← h, List.drop_append, List.drop_eq_nil_of_le (by omega), List.nil_append, Nat.add_sub_cancel_left, List.drop_left, List.append_assoc]
section
variable {P : Program} {w : World} {l : List HProp} {ops : Array Oper} {o : Oper} {a : Act} {K : Act → World → Prop} {Q : Exit → Act → World → Prop} {E : Prop}
/-- .. as one step of a region that draws -/
theorem step_copyK (hE : Ent l w) (i : Nat) {e : TypeId} {size n c g : Nat} {xs : List Value} (hi : l[i]? = some (row e size (.slice (some ⟨g, 0, none⟩) n c) n xs)) {d s : Operand} {dT sT : TypeId}
    (ho : o.op = .call { callee := .builtin .copy, args := #[d, s], argTypes := #[dT, sT] }) (hw : Region.wanted o (yielded ops a.tmps) = true)
    {j dLen dCap : Nat} (hd : a.eval d = .slice (cutAt size (some ⟨g, 0, none⟩) c j) dLen dCap) {v : Value} (hy : a.eval s = v)
    (hu : P.underlying dT = some (.slice e)) (hs : (P.info? e).map (·.size) = some size) {m : Nat} {ys : List Value} (hr : reads v m ys w) (hyl : ys.length = m * size) (h1 : ∀ u ∈ ys, u.oneCell' = true) (hm : m ≤ dLen) (hfit : j + m ≤ n)
    (h : ∀ w', Ent (l.set i (row e size (.slice (some ⟨g, 0, none⟩) n c) n (splice xs (j * size) ys))) w' → K (a.put o.dst (goInt m)) w') : if Region.wanted o (yielded ops a.tmps) = true then Oper.wp P o a w K Q else E := by
  rw [if_pos hw]
  obtain ⟨w', hr0, hE'⟩ := hE.copyRow (P := P) (sT := sT) i hi o.type hu hs hr hyl h1 (j := j) dLen dCap hm hfit
  unfold Oper.wp execOp
  simp only [ho, resolve, invoke, builtin, Sem.run_bind, Sem.run_pure, Result.andThen_ok, List.map_toArray, List.map_cons, List.map_nil, hd, hy, hr0]
  exact h w' hE'
/-- an element of an owned row written, as one step of a region that draws -/
theorem step_storeRow (hE : Ent l w) (i : Nat) {e : TypeId} {size n c g off : Nat} {xs : List Value} (ys : List Value) (hi : l[i]? = some (row e size (.slice (some ⟨g, 0, none⟩) n c) n xs)) {t : TypeId} {x y : Operand} {k : Nat}
    (ho : o.op = .store t x y) (hw : Region.wanted o (yielded ops a.tmps) = true) (hx : a.eval x = .pointer (some ⟨g, off, none⟩)) (hy : a.eval y = .agg ys.toArray)
    (hn : ∀ w, (Go.sizeOf t).run P w = .ok k w) (hk : ys.length = k) (h1 : ∀ u ∈ ys, u.oneCell' = true) (hfit : off + k ≤ n * size)
    (h : ∀ w', Ent (l.set i (row e size (.slice (some ⟨g, 0, none⟩) n c) n (splice xs off ys))) w' → K (a.put o.dst undef) w') : if Region.wanted o (yielded ops a.tmps) = true then Oper.wp P o a w K Q else E := by
  rw [if_pos hw]
  obtain ⟨w', hr, hE'⟩ := hE.storeRow (P := P) i hi hn (v := .agg ys.toArray) (by simp [Value.cells]) hk h1 hfit
  have hx2 : (execOp a.eval o).run P w = .ok .skip w' := by simp [execOp, ho, hx, hy, hr]
  simp only [Oper.wp, hx2, Oper.upon]
  exact h w' hE'
end
end Go.SL
namespace Go.Proofs.YtehfbokkcamliaaDoor
open Go.RowKit Go.SL
namespace Tr

def look? (q : List (List UInt8)) (t : Tr) : Option (Bool × List UInt8) := (get? q t).map fun k => (k.dir, k.data)
theorem kid_iff {t : Tr} (h : Rising t.names) {m : List UInt8} {k : Tr} : t.kid? m = some k ↔ (m, k) ∈ t.kids := by
  refine ⟨kid_mem, fun hm => ?_⟩
  obtain ⟨i, hi, e⟩ := List.getElem_of_mem hm
  have := kid_at h hi
  rwa [e] at this
theorem wf_rising {d : Nat} {t : Tr} (h : Wf d t) : Rising t.names := by
  cases d with
  | zero => rw [names, h.1]; intro i hi; simp at hi
  | succ d => exact h.2.2.1
theorem wf_data {d : Nat} {t : Tr} (h : Wf d t) (hd : t.dir = true) : t.data = [] := by
  cases d with
  | zero => exact h.2.1 hd
  | succ d => exact h.2.1 hd
theorem wf_size {d : Nat} {t : Tr} (h : Wf d t) : t.data.length ≤ 8192 ∧ t.kids.length ≤ 6 := by
  cases d with
  | zero => exact ⟨h.2.2, by rw [h.1]; simp⟩
  | succ d => exact ⟨h.2.2.2.2.1, h.2.2.2.1⟩
theorem wf_kid {d : Nat} {t : Tr} (h : Wf d t) {k : List UInt8 × Tr} (hk : k ∈ t.kids) : ∃ e, d = e + 1 ∧ Wf e k.2 := by
  cases d with
  | zero => rw [h.1] at hk; cases hk
  | succ d => exact ⟨d, rfl, (h.2.2.2.2.2 k hk).2⟩
theorem kid_ins {t : Tr} (h : Rising t.names) {n : List UInt8} (hn : isIn t.names n = false) (k : Tr) (m : List UInt8) :
    (nd true [] (insAt (placeOf t.names n) (n, k) t.kids)).kid? m = if m = n then some k else t.kid? m := by
  have hr : Rising (nd true [] (insAt (placeOf t.names n) (n, k) t.kids)).names := by
    show Rising ((insAt (placeOf t.names n) (n, k) t.kids).map Prod.fst)
    rw [insAt_map]
    exact rising_ins h hn
  split
  · next e => subst e; exact (kid_iff hr).2 (insAt_mem.2 (.inl rfl))
  · next e =>
    cases hk : t.kid? m with
    | some x => exact (kid_iff hr).2 (insAt_mem.2 (.inr (kid_mem hk)))
    | none =>
      cases hk2 : (nd true [] (insAt (placeOf t.names n) (n, k) t.kids)).kid? m with
      | none => rfl
      | some x =>
        rcases insAt_mem.1 (kid_mem hk2) with h1 | h1
        · exact absurd (congrArg Prod.fst h1) e
        · rw [(kid_iff h).2 h1] at hk; cases hk
theorem kid_set {t : Tr} (h : Rising t.names) {n : List UInt8} (hn : isIn t.names n = true) (k : Tr) (m : List UInt8) :
    (nd true [] (t.kids.set (placeOf t.names n) (n, k))).kid? m = if m = n then some k else t.kid? m := by
  obtain ⟨hi, e, _⟩ := kid_place h hn
  have hr : Rising (nd true [] (t.kids.set (placeOf t.names n) (n, k))).names := by
    show Rising ((t.kids.set (placeOf t.names n) (n, k)).map Prod.fst)
    rw [names_set hi e]; exact h
  have mem : ∀ x : Tr, m ≠ n → ((m, x) ∈ t.kids.set (placeOf t.names n) (n, k) ↔ (m, x) ∈ t.kids) := fun x hm => by
    constructor
    · intro h1
      obtain ⟨j, hj, e1⟩ := List.getElem_of_mem h1
      rw [List.getElem_set] at e1
      split at e1
      · exact absurd (congrArg Prod.fst e1).symm hm
      · exact e1 ▸ List.getElem_mem _
    · intro h1
      obtain ⟨j, hj, e1⟩ := List.getElem_of_mem h1
      have hji : placeOf t.names n ≠ j := fun h2 => by
        subst h2
        rw [e1] at e
        exact hm e
      have : (t.kids.set (placeOf t.names n) (n, k))[j]'(by simpa using hj) = (m, x) := by rw [List.getElem_set_ne hji]; exact e1
      exact this ▸ List.getElem_mem _
  split
  · next hm =>
    subst hm
    refine (kid_iff hr).2 ?_
    exact List.mem_iff_getElem.2 ⟨placeOf t.names m, by simpa [kids] using hi, by simp [kids]⟩
  · next hm =>
    cases hk : t.kid? m with
    | some x => exact (kid_iff hr).2 ((mem x hm).2 (kid_mem hk))
    | none =>
      cases hk2 : (nd true [] (t.kids.set (placeOf t.names n) (n, k))).kid? m with
      | none => rfl
      | some x =>
        have := (mem x hm).1 (kid_mem hk2)
        rw [(kid_iff h).2 this] at hk; cases hk
theorem look_nil (t : Tr) : look? [] t = some (t.dir, t.data) := rfl
theorem look_cons (n : List UInt8) (r : List (List UInt8)) (t : Tr) : look? (n :: r) t = match t.kid? n with
    | none => none
    | some k => look? r k := by
  rw [look?, get?]
  cases t.kid? n <;> rfl
theorem kid_leaf (xd : Bool) (xb n : List UInt8) : (leafOf xd xb).kid? n = none := rfl

theorem with_dir : ∀ {names : List (List UInt8)} {xd : Bool} {xb : List UInt8} {t : Tr}, (withT names xd xb t).1 = 0 → t.dir = true
  | [], _, _, _, h => by cases h
  | [n], xd, xb, t, h => by
    cases hd : t.dir with
    | true => rfl
    | false => rw [withT, hd] at h; cases h
  | n :: m :: r, xd, xb, t, h => by
    cases hd : t.dir with
    | true => rfl
    | false => rw [withT, hd] at h; cases h

theorem with_look : ∀ {ns : List (List UInt8)} {xd : Bool} {xb : List UInt8} {d : Nat} {t : Tr}, Wf d t → (withT ns xd xb t).1 = 0 →
    (withT ns xd xb t).2.dir = true ∧ (withT ns xd xb t).2.data = [] ∧ ∀ q, look? q (withT ns xd xb t).2 = if q = ns then some (xd, xb) else look? q t
  | [], _, _, _, _, _, h => by cases h
  | [n], xd, xb, d, t, hw, h => by
    have hd := with_dir h
    have hr := wf_rising hw
    have hda := wf_data hw hd
    rw [withT, hd] at h ⊢
    cases hn : isIn t.names n with
    | true => rw [hn] at h; cases h
    | false =>
      rw [hn] at h
      simp only [Bool.not_false, Bool.and_self, if_true] at h ⊢
      split at h
      · cases h
      · next hc =>
        rw [if_neg hc]
        refine ⟨rfl, rfl, fun q => ?_⟩
        rcases q with _ | ⟨m, r⟩
        · rw [if_neg (by simp), look_nil, look_nil, hd, hda]; rfl
        · rw [look_cons, look_cons, kid_ins hr hn]
          by_cases hm : m = n
          · subst hm
            rw [if_pos rfl, kid_none.2 hn]
            rcases r with _ | ⟨m2, r⟩
            · simp [look_nil, leafOf, dir, data]
            · simp [look_cons, kid_leaf]
          · rw [if_neg hm, if_neg (by simp [hm])]
  | n :: m :: r, xd, xb, d, t, hw, h => by
    have hd := with_dir h
    have hr := wf_rising hw
    have hda := wf_data hw hd
    rw [withT, hd] at h ⊢
    cases hn : isIn t.names n with
    | false => rw [hn] at h; cases h
    | true =>
      rw [hn] at h
      simp only [Bool.and_self, if_true] at h ⊢
      obtain ⟨hi, e1, e2⟩ := kid_place hr hn
      have hg : t.kids.getD (placeOf t.names n) ([], zero) = t.kids[placeOf t.names n] := by
        rw [List.getD_eq_getElem?_getD, List.getElem?_eq_getElem hi]; rfl
      rw [hg] at h ⊢
      obtain ⟨d', rfl, hwk⟩ := wf_kid hw (List.getElem_mem hi)
      by_cases h0 : (withT (m :: r) xd xb t.kids[placeOf t.names n].2).1 = 0
      · rw [if_pos h0]
        obtain ⟨_, _, ih⟩ := with_look hwk h0
        refine ⟨rfl, rfl, fun q => ?_⟩
        rcases q with _ | ⟨o, s⟩
        · rw [if_neg (by simp), look_nil, look_nil, hd, hda]; rfl
        · rw [look_cons, look_cons, kid_set hr hn]
          by_cases ho : o = n
          · subst ho
            rw [if_pos rfl, e2]
            show look? s _ = _
            rw [ih s]
            by_cases hs : s = m :: r
            · subst hs; rw [if_pos rfl, if_pos rfl]
            · rw [if_neg hs, if_neg (by simp [hs])]
          · rw [if_neg ho, if_neg (by simp [ho])]
      · simp only [if_neg h0] at h
        exact absurd h h0
end Tr
end Go.Proofs.YtehfbokkcamliaaDoor
namespace Go.Proofs.YtehfbokkcamliaaDoor
open Go.RowKit Go.SL
namespace Tr

/-- why there may be no such node, as the document tells it: of what is at the names but the last, and of the last -/
def errAt (p : Option Tr) (n : List UInt8) (xb : List UInt8) : Int := match p with
  | none => 8
  | some p => if p.dir && !isIn p.names n then (if 6 < p.kids.length + 1 ∨ 8192 < xb.length then 6 else 0) else 8
theorem wf_file {d : Nat} {t : Tr} (h : Wf d t) (hd : t.dir = false) : t.kids = [] := by
  cases d with
  | zero => exact h.1
  | succ d => exact h.1 hd
theorem with_err : ∀ {ns : List (List UInt8)} {n : List UInt8} {xd : Bool} {xb : List UInt8} {d : Nat} {t : Tr}, Wf d t →
    (withT (ns ++ [n]) xd xb t).1 = errAt (get? ns t) n xb
  | [], n, xd, xb, d, t, _ => by
    show (withT [n] xd xb t).1 = errAt (some t) n xb
    rw [withT, errAt]
    split
    · split <;> rfl
    · rfl
  | o :: ns, n, xd, xb, d, t, hw => by
    obtain ⟨m, r, hmr⟩ : ∃ m r, ns ++ [n] = m :: r := by
      cases ns with
      | nil => exact ⟨n, [], rfl⟩
      | cons m r => exact ⟨m, r ++ [n], rfl⟩
    have hr := wf_rising hw
    show (withT (o :: (ns ++ [n])) xd xb t).1 = _
    rw [hmr, withT, get?]
    cases hd : t.dir with
    | false =>
      have hk : t.kid? o = none := by rw [kid?, wf_file hw hd]; rfl
      rw [hk]; rfl
    | true =>
      cases ho : isIn t.names o with
      | false =>
        rw [kid_none.2 ho]; rfl
      | true =>
        obtain ⟨hi, e1, e2⟩ := kid_place hr ho
        obtain ⟨d', rfl, hwk⟩ := wf_kid hw (List.getElem_mem hi)
        have hg : t.kids.getD (placeOf t.names o) ([], zero) = t.kids[placeOf t.names o] := by
          rw [List.getD_eq_getElem?_getD, List.getElem?_eq_getElem hi]; rfl
        have ih := with_err (ns := ns) (n := n) (xd := xd) (xb := xb) hwk
        rw [hmr] at ih
        rw [e2, hg]
        show _ = errAt (get? ns _) n xb
        rw [← ih]
        simp only [Bool.and_self, if_true]
        split
        · next h0 => exact h0.symm
        · rfl
/-- the tree is as it should be -/
theorem with_wf : ∀ {ns : List (List UInt8)} {xd : Bool} {xb : List UInt8} {d : Nat} {t : Tr}, Wf d t → ns.length ≤ d → ns.all isName = true → (xd = true → xb = []) → (withT ns xd xb t).1 = 0 → Wf d (withT ns xd xb t).2
  | [], _, _, _, _, _, _, _, _, h => by cases h
  | [n], xd, xb, d, t, hw, hl, hn, hx, h => by
    obtain ⟨d, rfl⟩ : ∃ e, d = e + 1 := ⟨d - 1, by simp at hl; omega⟩
    have hd := with_dir h
    have hr := wf_rising hw
    obtain ⟨_, _, _, w4, w5, w6⟩ := hw
    rw [withT, hd] at h ⊢
    cases hi : isIn t.names n with
    | true => rw [hi] at h; cases h
    | false =>
      rw [hi] at h
      simp only [Bool.not_false, Bool.and_self, if_true] at h ⊢
      split at h
      · cases h
      · next hc =>
        rw [if_neg hc]
        have hp : placeOf t.names n ≤ t.kids.length := by have := (find_at hr n).2.1; simpa [names] using this
        refine ⟨fun h => Bool.noConfusion (show true = false from h), fun _ => rfl, ?_, ?_, Nat.zero_le _, fun k hk => ?_⟩
        · show Rising ((insAt (placeOf t.names n) (n, leafOf xd xb) t.kids).map Prod.fst)
          rw [insAt_map]
          exact rising_ins hr hi
        · show (insAt (placeOf t.names n) (n, leafOf xd xb) t.kids).length ≤ 6
          rw [insAt_len hp]; omega
        · rcases insAt_mem.1 hk with rfl | hk
          · refine ⟨by simpa using hn, ?_⟩
            cases d with
            | zero => exact ⟨rfl, hx, by show xb.length ≤ 8192; omega⟩
            | succ d => exact ⟨fun _ => rfl, hx, fun i hi => by simp [names, leafOf, kids] at hi, Nat.zero_le _, by show xb.length ≤ 8192; omega, fun k hk => by cases hk⟩
          · exact w6 k hk
  | n :: m :: r, xd, xb, d, t, hw, hl, hn, hx, h => by
    obtain ⟨d, rfl⟩ : ∃ e, d = e + 1 := ⟨d - 1, by simp at hl; omega⟩
    have hd := with_dir h
    have hr := wf_rising hw
    obtain ⟨_, _, _, w4, w5, w6⟩ := hw
    rw [withT, hd] at h ⊢
    cases hi : isIn t.names n with
    | false => rw [hi] at h; cases h
    | true =>
      rw [hi] at h
      simp only [Bool.and_self, if_true] at h ⊢
      obtain ⟨hp, e1, e2⟩ := kid_place hr hi
      have hg : t.kids.getD (placeOf t.names n) ([], zero) = t.kids[placeOf t.names n] := by
        rw [List.getD_eq_getElem?_getD, List.getElem?_eq_getElem hp]; rfl
      rw [hg] at h ⊢
      have hwk := w6 _ (List.getElem_mem hp)
      by_cases h0 : (withT (m :: r) xd xb t.kids[placeOf t.names n].2).1 = 0
      · rw [if_pos h0]
        have ih := with_wf hwk.2 (by simp at hl ⊢; omega) (by simp at hn ⊢; exact ⟨hn.2.1, hn.2.2⟩) hx h0
        refine ⟨fun h => Bool.noConfusion (show true = false from h), fun _ => rfl, ?_, ?_, Nat.zero_le _, fun k hk => ?_⟩
        · show Rising ((t.kids.set (placeOf t.names n) _).map Prod.fst)
          rw [names_set hp e1]; exact hr
        · show (t.kids.set _ _).length ≤ 6
          rw [List.length_set]; exact w4
        · rcases List.mem_or_eq_of_mem_set hk with hk | rfl
          · exact w6 k hk
          · exact ⟨by simp at hn; exact hn.1, ih⟩
      · simp only [if_neg h0] at h
        exact absurd h h0
theorem with_zero {ns : List (List UInt8)} {xd : Bool} {xb : List UInt8} {t : Tr} (h : (withT ns xd xb t).1 ≠ 0) : (withT ns xd xb t).2 = zero := by
  rcases ns with _ | ⟨n, _ | ⟨m, r⟩⟩
  · rfl
  · rw [withT] at h ⊢
    split
    · next hc =>
      rw [if_pos hc] at h
      split
      · rfl
      · next h2 => rw [if_neg h2] at h; exact absurd rfl h
    · rfl
  · rw [withT] at h ⊢
    split
    · next hc =>
      rw [if_pos hc] at h
      simp only at h ⊢
      split
      · next h2 => rw [if_pos h2] at h; exact absurd rfl h
      · rfl
    · rfl
end Tr
end Go.Proofs.YtehfbokkcamliaaDoor
namespace Go.Proofs.YtehfbokkcamliaaDoor
open Go.RowKit Go.SL
theorem joinP_len : ∀ xs : List (List UInt8), (∀ x ∈ xs, x.length ≤ 600) → (joinP xs).length ≤ xs.length * 601
  | [], _ => by simp [joinP, Lib.join_nil]
  | [a], h => by
    rw [joinP_one]
    have := h a (by simp)
    simp only [List.length_cons, List.length_nil]
    omega
  | a :: b :: t, h => by
    rw [joinP_cons a (by simp)]
    have h1 := joinP_len (b :: t) (fun x hx => h x (by simp [hx]))
    have h2 := h a (by simp)
    simp only [List.length_append, List.length_cons] at h1 ⊢
    omega
theorem joinP_snoc (x : List UInt8) : ∀ l : List (List UInt8), l ≠ [] → joinP (l ++ [x]) = joinP l ++ 47 :: x
  | [], h => absurd rfl h
  | [a], _ => by
    rw [joinP_one, List.cons_append, joinP_cons a (by simp), List.nil_append, joinP_one]
  | a :: b :: t, _ => by
    have ih := joinP_snoc x (b :: t) (by simp)
    rw [List.cons_append, joinP_cons a (by simp), ih, joinP_cons a (by simp)]
    simp
theorem splitL_names (p : List UInt8) : (splitL p).length ≤ 6 ∧ (splitL p).all isName = true := by
  unfold splitL
  split
  · simp
  · split
    · rename_i h
      split
      · rename_i h6
        exact ⟨h6, h⟩
      · simp
    · simp
theorem name_len {x : List UInt8} (h : isName x = true) : 1 ≤ x.length ∧ x.length ≤ 16 := by
  simp only [isName, Bool.and_eq_true, decide_eq_true_eq] at h
  exact h.2
theorem splitL_len (p : List UInt8) : ∀ x ∈ splitL p, x.length ≤ 600 := fun x hx => by
  have := (name_len (List.all_eq_true.1 (splitL_names p).2 x hx)).2
  omega
theorem split_ok {p : List UInt8} (h : splitE p = 0) : joinP (splitL p) = p := by
  unfold splitE at h
  unfold splitL
  split at h
  · rename_i h0
    rw [if_pos h0, h0]
    rfl
  · rename_i h0
    rw [if_neg h0]
    split at h
    · rename_i ha
      rw [if_pos ha]
      split at h
      · rename_i h6
        rw [if_pos h6]
        exact join_cuts p
      · simp at h
    · simp at h
theorem split_ne {p : List UInt8} (h : splitE p ≠ 0) : splitL p = [] := by
  unfold splitE at h
  unfold splitL
  split at h
  · simp at h
  · rename_i h0
    rw [if_neg h0]
    split at h
    · rename_i ha
      rw [if_pos ha]
      split at h
      · simp at h
      · rename_i h6
        rw [if_neg h6]
    · rename_i ha
      rw [if_neg ha]
theorem joinP_ne {xs : List (List UInt8)} (h0 : xs ≠ []) (h : xs.all isName = true) : joinP xs ≠ [] := by
  obtain ⟨a, t, rfl⟩ := List.exists_cons_of_ne_nil h0
  simp only [List.all_cons, Bool.and_eq_true] at h
  have ha := (name_len h.1).1
  intro e
  have : (joinP (a :: t)).length = 0 := by rw [e]; rfl
  cases t with
  | nil => rw [joinP_one] at this; omega
  | cons b t => rw [joinP_cons a (by simp), List.length_append] at this; omega
theorem join_split {xs : List (List UInt8)} (h0 : xs ≠ []) (h : xs.all isName = true) (h6 : xs.length ≤ 6) : splitL (joinP xs) = xs ∧ splitE (joinP xs) = 0 := by
  have hc := cuts_join xs h0 h
  have := split_good (joinP_ne h0 h) (by rw [hc]; exact h) (by rw [hc]; exact h6)
  rwa [hc] at this
theorem joins_many {xs : List (List UInt8)} (h0 : xs ≠ []) (h : xs.all isName = true) (h6 : ¬ xs.length ≤ 6) : splitL (joinP xs) = [] ∧ splitE (joinP xs) = 6 := by
  have hc := cuts_join xs h0 h
  exact split_many (joinP_ne h0 h) (by rw [hc]; exact h) (by rw [hc]; exact h6)
end Go.Proofs.YtehfbokkcamliaaDoor
namespace Go.Proofs.YtehfbokkcamliaaDoor
open Go.RowKit Go.SL

/-- an entry -/
structure En where
  path : List UInt8
  dir : Bool
  data : List UInt8
/-- the path of a path's directory, as the document reckons it -/
def parP (p : List UInt8) : List UInt8 := ((p.reverse.dropWhile fun c => c != 47).drop 1).reverse
theorem dropWhile_free : ∀ {s r : List UInt8}, (∀ c ∈ s, c ≠ 47) → (s ++ r).dropWhile (fun c => c != 47) = r.dropWhile fun c => c != 47
  | [], _, _ => rfl
  | c :: s, r, h => by
    have hc : (c != 47) = true := by simpa using h c (by simp)
    rw [List.cons_append, List.dropWhile_cons, if_pos hc]
    exact dropWhile_free fun d hd => h d (by simp [hd])
theorem parP_free {n : List UInt8} (h : ∀ c ∈ n, c ≠ 47) : parP n = [] := by
  have := dropWhile_free (s := n.reverse) (r := []) (fun c hc => h c (by simpa using hc))
  rw [List.append_nil] at this
  rw [parP, this]; rfl
theorem parP_app {a n : List UInt8} (h : ∀ c ∈ n, c ≠ 47) : parP (a ++ 47 :: n) = a := by
  have e : (a ++ 47 :: n).reverse = n.reverse ++ 47 :: a.reverse := by simp
  rw [parP, e, dropWhile_free (fun c hc => h c (by simpa using hc))]
  simp
theorem joinP_end : ∀ {q : List (List UInt8)} {n : List UInt8}, q ≠ [] → joinP (q ++ [n]) = joinP q ++ 47 :: n
  | [], _, h => absurd rfl h
  | [a], n, _ => by
    show joinP (a :: [n]) = _
    rw [joinP_cons a (by simp), joinP_one, joinP_one]
  | a :: b :: q, n, _ => by
    show joinP (a :: ((b :: q) ++ [n])) = _
    rw [joinP_cons a (by simp), joinP_end (by simp), joinP_cons a (by simp), List.append_assoc]; rfl
theorem parP_join {q : List (List UInt8)} {n : List UInt8} (h : isName n = true) : parP (joinP (q ++ [n])) = joinP q := by
  by_cases hq : q = []
  · subst hq
    rw [List.nil_append, joinP_one, parP_free (name_free h)]; rfl
  · rw [joinP_end hq, parP_app (name_free h)]
/-- of a path that is one: its names -/
theorem split_names {p : List UInt8} (h : splitE p = 0) : (splitL p).all isName = true ∧ (splitL p).length ≤ 6 ∧ joinP (splitL p) = p ∧ (splitL p = [] ↔ p = []) := by
  refine ⟨?_, ?_, split_ok h, ?_⟩
  · unfold splitL splitE at *
    split
    · rfl
    · next h0 =>
      rw [if_neg h0] at h
      split
      · next h1 =>
        rw [if_pos h1] at h
        split
        · exact h1
        · rfl
      · rfl
  · unfold splitL
    split
    · simp
    · split
      · split
        · assumption
        · simp
      · simp
  · constructor
    · intro e
      have := split_ok h
      rw [e] at this
      exact this.symm
    · rintro rfl; rfl

/-- the row says what is at any names -/
def Rel (t : Tr) (L : List En) : Prop :=
  (∀ x ∈ L, splitE x.path = 0 ∧ x.path ≠ []) ∧ (L.map En.path).Nodup ∧
  ∀ q, q ≠ [] → ∀ d b, Tr.look? q t = some (d, b) ↔ ∃ x ∈ L, splitL x.path = q ∧ x.dir = d ∧ x.data = b
def root : Tr := .nd true [] []
theorem Rel.start : Rel root [] := by
  refine ⟨fun x hx => (by cases hx), List.nodup_nil, fun q hq d b => ?_⟩
  rcases q with _ | ⟨n, r⟩
  · exact absurd rfl hq
  · constructor
    · intro h
      rw [Tr.look_cons] at h
      cases h
    · rintro ⟨x, hx, _⟩; cases hx
theorem root_wf (d : Nat) : Tr.Wf d root := by
  cases d with
  | zero => exact ⟨rfl, fun _ => rfl, Nat.zero_le _⟩
  | succ d => exact ⟨fun _ => rfl, fun _ => rfl, fun i hi => by simp [Tr.names, root, Tr.kids] at hi, Nat.zero_le _, Nat.zero_le _, fun k hk => by cases hk⟩
/-- one more -/
theorem Rel.add {t : Tr} {L : List En} {x : En} {d : Nat} (hR : Rel t L) (hw : Tr.Wf d t) (hp : splitE x.path = 0) (h : (Tr.withT (splitL x.path) x.dir x.data t).1 = 0) (hno : Tr.look? (splitL x.path) t = none) :
    Rel (Tr.withT (splitL x.path) x.dir x.data t).2 (L ++ [x]) := by
  obtain ⟨r1, r2, r3⟩ := hR
  obtain ⟨_, _, hl⟩ := Tr.with_look hw h
  obtain ⟨_, _, n3, n4⟩ := split_names hp
  have hne : x.path ≠ [] := fun e => by
    rw [n4.2 e] at h; cases h
  have hnew : ∀ y ∈ L, splitL y.path ≠ splitL x.path := fun y hy e => by
    have := (r3 (splitL x.path) (fun e2 => hne (n4.1 e2)) y.dir y.data).2 ⟨y, hy, e, rfl, rfl⟩
    rw [hno] at this; cases this
  refine ⟨fun y hy => ?_, ?_, fun q hq d b => ?_⟩
  · rcases List.mem_append.1 hy with hy | hy
    · exact r1 y hy
    · rw [List.mem_singleton.1 hy]; exact ⟨hp, hne⟩
  · rw [List.map_append, List.nodup_append]
    refine ⟨r2, by simp, fun a ha b hb => ?_⟩
    obtain ⟨y, hy, rfl⟩ := List.mem_map.1 ha
    simp only [List.map_cons, List.map_nil, List.mem_singleton] at hb
    subst hb
    exact fun e => hnew y hy (by rw [e])
  · rw [hl q]
    by_cases hqx : q = splitL x.path
    · subst hqx
      rw [if_pos rfl]
      constructor
      · intro e
        cases e
        exact ⟨x, by simp, rfl, rfl, rfl⟩
      · rintro ⟨y, hy, e1, rfl, rfl⟩
        rcases List.mem_append.1 hy with hy | hy
        · exact absurd e1 (hnew y hy)
        · rw [List.mem_singleton.1 hy]
    · rw [if_neg hqx, r3 q hq]
      constructor
      · rintro ⟨y, hy, e⟩
        exact ⟨y, by simp [hy], e⟩
      · rintro ⟨y, hy, e1, e2⟩
        rcases List.mem_append.1 hy with hy | hy
        · exact ⟨y, hy, e1, e2⟩
        · rw [List.mem_singleton.1 hy] at e1
          exact absurd e1.symm hqx
end Go.Proofs.YtehfbokkcamliaaDoor
namespace Go.Proofs.YtehfbokkcamliaaDoor
open Go.RowKit Go.SL

theorem get_append : ∀ (q r : List (List UInt8)) (t : Tr), Tr.get? (q ++ r) t = (Tr.get? q t).bind (Tr.get? r)
  | [], r, t => rfl
  | n :: q, r, t => by
    show Tr.get? (n :: (q ++ r)) t = _
    rw [Tr.get?, Tr.get?]
    cases t.kid? n with
    | none => rfl
    | some k => exact get_append q r k
theorem get_snoc {q : List (List UInt8)} {n : List UInt8} {t p : Tr} (h : Tr.get? q t = some p) : Tr.get? (q ++ [n]) t = p.kid? n := by
  rw [get_append, h]
  show Tr.get? [n] p = _
  rw [Tr.get?]
  cases p.kid? n <;> rfl
theorem look_isSome {q : List (List UInt8)} {t : Tr} : (Tr.look? q t).isSome = (Tr.get? q t).isSome := by
  rw [Tr.look?, Option.isSome_map]
theorem wf_get : ∀ {q : List (List UInt8)} {t p : Tr} {d : Nat}, Tr.Wf d t → Tr.get? q t = some p → ∃ e, Tr.Wf e p
  | [], t, p, d, hw, h => by cases h; exact ⟨d, hw⟩
  | n :: q, t, p, d, hw, h => by
    rw [Tr.get?] at h
    cases hk : t.kid? n with
    | none => rw [hk] at h; cases h
    | some k =>
      rw [hk] at h
      obtain ⟨e, _, he⟩ := Tr.wf_kid hw (Tr.kid_mem hk)
      exact wf_get he h
theorem joinP_inj {a b : List (List UInt8)} (ha : a.all isName = true) (hb : b.all isName = true) (la : a.length ≤ 6) (lb : b.length ≤ 6) (h : joinP a = joinP b) : a = b := by
  by_cases h1 : a = []
  · subst h1
    by_cases h2 : b = []
    · exact h2.symm
    · exact absurd h.symm (joinP_ne h2 hb)
  · by_cases h2 : b = []
    · subst h2; exact absurd h (joinP_ne h1 ha)
    · have e1 := (join_split h1 ha la).1
      rw [h, (join_split h2 hb lb).1] at e1
      exact e1.symm
theorem snoc_of_ne {α : Type} {l : List α} (h : l ≠ []) : ∃ q n, l = q ++ [n] := ⟨l.dropLast, l.getLast h, (List.dropLast_concat_getLast h).symm⟩
/-- the entries of what is right in a directory -/
def kidsD (L : List En) (p : List UInt8) : List En := L.filter fun x => parP x.path == p
def Tr.isIn' (p : Tr) (n : List UInt8) : Bool := isIn p.names n
theorem kids_names {t p : Tr} {L : List En} {d : Nat} {q : List (List UInt8)} (hR : Rel t L) (hw : Tr.Wf d t) (hq : q.all isName = true) (lq : q.length ≤ 6) (hg : Tr.get? q t = some p) (n : List UInt8) :
    n ∈ p.names ↔ ∃ x ∈ L, splitL x.path = q ++ [n] := by
  obtain ⟨_, _, r3⟩ := hR
  obtain ⟨e, he⟩ := wf_get hw hg
  have h1 : n ∈ p.names ↔ Tr.isIn' p n = true := by rw [Tr.isIn', isIn, List.contains_iff_mem]
  have h2 : (Tr.look? (q ++ [n]) t).isSome = isIn p.names n := by
    rw [look_isSome, get_snoc hg]
    cases hk : p.kid? n with
    | none => rw [Tr.kid_none.1 hk]; rfl
    | some k =>
      cases hi : isIn p.names n with
      | true => rfl
      | false => rw [Tr.kid_none.2 hi] at hk; cases hk
  rw [h1, Tr.isIn', ← h2]
  constructor
  · intro h
    obtain ⟨⟨a, b⟩, hab⟩ := Option.isSome_iff_exists.1 h
    obtain ⟨x, hx, e1, _⟩ := (r3 _ (by simp) a b).1 hab
    exact ⟨x, hx, e1⟩
  · rintro ⟨x, hx, e1⟩
    rw [(r3 (q ++ [n]) (by simp) x.dir x.data).2 ⟨x, hx, e1, rfl, rfl⟩]; rfl
end Go.Proofs.YtehfbokkcamliaaDoor
namespace Go.Proofs.YtehfbokkcamliaaDoor
open Go.RowKit Go.SL

/-- entries whose directory it is, by their names -/
theorem kidsD_iff {L : List En} (h : ∀ x ∈ L, splitE x.path = 0 ∧ x.path ≠ []) {q : List (List UInt8)} (hq : q.all isName = true) (lq : q.length ≤ 6) {x : En} (hx : x ∈ L) :
    parP x.path = joinP q ↔ ∃ n, splitL x.path = q ++ [n] := by
  obtain ⟨h1, h2⟩ := h x hx
  obtain ⟨a, b, c, e⟩ := split_names h1
  obtain ⟨r, n, hr⟩ := snoc_of_ne (fun h3 => h2 (e.1 h3) : splitL x.path ≠ [])
  rw [hr] at a b c ⊢
  rw [List.all_append, Bool.and_eq_true] at a
  have hn : isName n = true := by simpa using a.2
  rw [← c, parP_join hn]
  constructor
  · intro h3
    exact ⟨n, by rw [joinP_inj a.1 hq (by simp at b; omega) lq h3]⟩
  · rintro ⟨m, hm⟩
    have := congrArg List.dropLast hm
    rw [List.dropLast_concat, List.dropLast_concat] at this
    rw [this]
theorem nodup_rising {ks : List (List UInt8)} (h : Rising ks) : ks.Nodup := by
  refine List.pairwise_iff_getElem.2 fun i j hi hj hij e => ?_
  have := Tr.rising_inj h hi hj e
  omega
theorem kids_count {t p : Tr} {L : List En} {d : Nat} {q : List (List UInt8)} (hR : Rel t L) (hw : Tr.Wf d t) (hq : q.all isName = true) (lq : q.length ≤ 6) (hg : Tr.get? q t = some p) :
    (kidsD L (joinP q)).length = p.kids.length := by
  have hk := kids_names hR hw hq lq hg
  obtain ⟨r1, r2, _⟩ := hR
  obtain ⟨e, he⟩ := wf_get hw hg
  have n1 : ((kidsD L (joinP q)).map fun x => splitL x.path).Nodup := by
    have e1 : (kidsD L (joinP q)).map En.path = ((kidsD L (joinP q)).map fun x => splitL x.path).map joinP := by
      rw [List.map_map]
      apply List.map_congr_left
      intro x hx
      have hx2 := (List.mem_filter.1 hx).1
      exact ((split_names (r1 x hx2).1).2.2.1).symm
    have n2 : ((kidsD L (joinP q)).map En.path).Nodup := r2.sublist (List.Sublist.map _ List.filter_sublist)
    rw [e1] at n2
    exact (List.pairwise_map.1 n2).imp fun h e => h (by rw [e])
  have n2 : (p.names.map fun n => q ++ [n]).Nodup := by
    exact List.pairwise_map.2 ((nodup_rising (Tr.wf_rising he)).imp fun h e => h (by simpa using e))
  have hp : ((kidsD L (joinP q)).map fun x => splitL x.path).Perm (p.names.map fun n => q ++ [n]) := by
    refine (List.perm_ext_iff_of_nodup n1 n2).2 fun s => ?_
    rw [List.mem_map, List.mem_map]
    constructor
    · rintro ⟨x, hx, rfl⟩
      obtain ⟨hx1, hx2⟩ := List.mem_filter.1 hx
      obtain ⟨n, hn⟩ := (kidsD_iff r1 hq lq hx1).1 (beq_iff_eq.1 hx2)
      exact ⟨n, (hk n).2 ⟨x, hx1, hn⟩, hn.symm⟩
    · rintro ⟨n, hn, rfl⟩
      obtain ⟨x, hx, e1⟩ := (hk n).1 hn
      exact ⟨x, List.mem_filter.2 ⟨hx, beq_iff_eq.2 ((kidsD_iff r1 hq lq hx).2 ⟨n, e1⟩)⟩, e1⟩
  have := hp.length_eq
  rw [List.length_map, List.length_map, Tr.names, List.length_map] at this
  exact this

/-- is there an entry of a path? -/
def hasD (L : List En) (p : List UInt8) : Bool := L.any fun x => x.path == p
/-- is there a directory of a path? -/
def dirD (L : List En) (p : List UInt8) : Bool := p == [] || L.any fun x => x.path == p && x.dir
/-- the document's error of one more entry -/
def addE (L : List En) (x : En) : Int :=
  if splitE x.path ≠ 0 then splitE x.path
  else if x.path = [] ∨ (x.dir = true ∧ x.data ≠ []) ∨ hasD L x.path = true ∨ dirD L (parP x.path) = false then 8
  else if 8192 < x.data.length ∨ 6 ≤ (kidsD L (parP x.path)).length then 6 else 0
/-- the program's -/
def addT (t : Tr) (x : En) : Int × Tr :=
  if splitE x.path ≠ 0 then (splitE x.path, .zero)
  else if x.dir = true ∧ x.data ≠ [] then (8, .zero)
  else Tr.withT (splitL x.path) x.dir x.data t
theorem hasD_iff {t : Tr} {L : List En} (hR : Rel t L) {p : List UInt8} (hp : splitE p = 0) (h0 : p ≠ []) : hasD L p = (Tr.get? (splitL p) t).isSome := by
  obtain ⟨r1, _, r3⟩ := hR
  obtain ⟨_, _, c, e⟩ := split_names hp
  rw [← look_isSome, hasD, Bool.eq_iff_iff, List.any_eq_true, Option.isSome_iff_exists]
  constructor
  · rintro ⟨x, hx, hxp⟩
    exact ⟨_, (r3 _ (fun h => h0 (e.1 h)) x.dir x.data).2 ⟨x, hx, by rw [beq_iff_eq.1 hxp], rfl, rfl⟩⟩
  · rintro ⟨⟨a, b⟩, hab⟩
    obtain ⟨x, hx, e1, _⟩ := (r3 _ (fun h => h0 (e.1 h)) a b).1 hab
    refine ⟨x, hx, beq_iff_eq.2 ?_⟩
    rw [← (split_names (r1 x hx).1).2.2.1, e1, c]
theorem dirD_iff {t : Tr} {L : List En} (hR : Rel t L) (ht : t.dir = true) {q : List (List UInt8)} (hq : q.all isName = true) (lq : q.length ≤ 6) : dirD L (joinP q) = match Tr.get? q t with
    | none => false
    | some p => p.dir := by
  obtain ⟨r1, _, r3⟩ := hR
  by_cases h0 : q = []
  · subst h0
    show (([] : List UInt8) == [] || _) = t.dir
    rw [ht]; rfl
  · have hj : (joinP q == []) = false := by rw [beq_eq_false_iff_ne]; exact joinP_ne h0 hq
    have key : (L.any fun x => x.path == joinP q && x.dir) = true ↔ ∃ b, Tr.look? q t = some (true, b) := by
      rw [List.any_eq_true]
      constructor
      · rintro ⟨x, hx, hxp⟩
        rw [Bool.and_eq_true, beq_iff_eq] at hxp
        refine ⟨x.data, (r3 q h0 true x.data).2 ⟨x, hx, ?_, hxp.2, rfl⟩⟩
        rw [hxp.1, (join_split h0 hq lq).1]
      · rintro ⟨b, hb⟩
        obtain ⟨x, hx, e1, e2, _⟩ := (r3 q h0 true b).1 hb
        refine ⟨x, hx, ?_⟩
        rw [Bool.and_eq_true, beq_iff_eq]
        exact ⟨by rw [← (split_names (r1 x hx).1).2.2.1, e1], e2⟩
    rw [dirD, hj, Bool.false_or, Bool.eq_iff_iff, key, Tr.look?]
    cases hg : Tr.get? q t with
    | none => simp
    | some p => simp
/-- both tell the same error -/
theorem add_err {t : Tr} {L : List En} {x : En} {d : Nat} (hR : Rel t L) (hw : Tr.Wf d t) (ht : t.dir = true) : (addT t x).1 = addE L x := by
  rw [addT, addE]
  by_cases h1 : splitE x.path ≠ 0
  · rw [if_pos h1, if_pos h1]
  · rw [if_neg h1, if_neg h1]
    have hs : splitE x.path = 0 := by simpa using h1
    obtain ⟨a, b, c, e⟩ := split_names hs
    by_cases h2 : x.dir = true ∧ x.data ≠ []
    · rw [if_pos h2, if_pos (.inr (.inl h2))]
    · rw [if_neg h2]
      by_cases h3 : x.path = []
      · rw [if_pos (.inl h3), e.2 h3]; rfl
      · obtain ⟨r, n, hr⟩ := snoc_of_ne (fun h4 => h3 (e.1 h4) : splitL x.path ≠ [])
        have hh := hasD_iff hR hs h3
        rw [hr] at a b c hh ⊢
        rw [List.all_append, Bool.and_eq_true] at a
        have hn : isName n = true := by simpa using a.2
        have lr : r.length ≤ 6 := by simp at b; omega
        have hpar : parP x.path = joinP r := by rw [← c, parP_join hn]
        have hd := dirD_iff hR ht a.1 lr
        rw [Tr.with_err hw, hpar, hh, hd]
        cases hg : Tr.get? r t with
        | none => simp [Tr.errAt]
        | some p =>
          have hc := kids_count hR hw a.1 lr hg
          have hi : (Tr.get? (r ++ [n]) t).isSome = isIn p.names n := by
            rw [get_snoc hg]
            cases hk : p.kid? n with
            | none => rw [Tr.kid_none.1 hk]; rfl
            | some k =>
              cases hi : isIn p.names n with
              | true => rfl
              | false => rw [Tr.kid_none.2 hi] at hk; cases hk
          rw [hi, hc]
          simp only [h3, h2, false_or, Tr.errAt]
          cases p.dir with
          | false => simp
          | true =>
            cases isIn p.names n with
            | true => simp
            | false =>
              simp only [Bool.not_false, Bool.and_self, if_true, Bool.false_eq_true, Bool.true_eq_false, or_self, if_false]
              have : (6 < p.kids.length + 1 ∨ 8192 < x.data.length) ↔ (8192 < x.data.length ∨ 6 ≤ p.kids.length) := by omega
              simp only [this]
end Go.Proofs.YtehfbokkcamliaaDoor
namespace Go.Proofs.YtehfbokkcamliaaDoor
open Go.RowKit Go.SL

theorem addT_zero {t : Tr} {x : En} (h : (addT t x).1 ≠ 0) : (addT t x).2 = .zero := by
  rw [addT] at h ⊢
  split
  · rfl
  · next h1 =>
    rw [if_neg h1] at h
    split
    · rfl
    · next h2 =>
      rw [if_neg h2] at h
      exact Tr.with_zero h
/-- what a tree of entries is like -/
def Good (t : Tr) (L : List En) : Prop := Rel t L ∧ Tr.Wf 6 t ∧ t.dir = true ∧ t.data = []
theorem good_root : Good root [] := ⟨Rel.start, root_wf 6, rfl, rfl⟩
theorem add_good {t : Tr} {L : List En} {x : En} (h : Good t L) (h0 : (addT t x).1 = 0) : Good (addT t x).2 (L ++ [x]) := by
  obtain ⟨hR, hw, hd, hb⟩ := h
  have h0' := h0
  rw [addT] at h0 ⊢
  split at h0
  · next h1 => exact absurd h0 h1
  · next h1 =>
    rw [if_neg h1]
    split at h0
    · cases h0
    · next h2 =>
      rw [if_neg h2]
      have hs : splitE x.path = 0 := by simpa using h1
      obtain ⟨a, b, c, e⟩ := split_names hs
      have hne : splitL x.path ≠ [] := fun h3 => by rw [h3] at h0; cases h0
      have hno : Tr.look? (splitL x.path) t = none := by
        obtain ⟨r, n, hr⟩ := snoc_of_ne hne
        rw [hr] at h0 ⊢
        rw [Tr.with_err hw] at h0
        cases hg : Tr.get? r t with
        | none => rw [hg] at h0; cases h0
        | some p =>
          rw [hg] at h0
          simp only [Tr.errAt] at h0
          split at h0
          · next h3 =>
            rw [Bool.and_eq_true, Bool.not_eq_true'] at h3
            rw [Tr.look?, get_snoc hg, Tr.kid_none.2 h3.2]; rfl
          · cases h0
      obtain ⟨l1, l2, _⟩ := Tr.with_look hw h0
      exact ⟨hR.add hw hs h0 hno, Tr.with_wf hw b a (fun h3 => by
        cases hx : x.data with
        | nil => rfl
        | cons y r => exact absurd ⟨h3, by rw [hx]; simp⟩ h2) h0, l1, l2⟩
def goT (t : Tr) : List En → Int × Tr
  | [] => (0, t)
  | x :: r => if (addT t x).1 = 0 then goT (addT t x).2 r else ((addT t x).1, .zero)
def goD (L : List En) : List En → Int × List En
  | [] => (0, L)
  | x :: r => if addE L x = 0 then goD (L ++ [x]) r else (addE L x, [])
def buildT (l : List En) : Int × Tr := if 64 < l.length then (6, .zero) else goT root l
def buildD (l : List En) : Int × List En := if 64 < l.length then (6, []) else goD [] l
theorem go_same : ∀ {r L : List En} {t : Tr}, Good t L → (goT t r).1 = (goD L r).1 ∧ ((goT t r).1 = 0 → Good (goT t r).2 (goD L r).2 ∧ (goD L r).2 = L ++ r)
  | [], L, t, h => ⟨rfl, fun _ => ⟨h, (List.append_nil _).symm⟩⟩
  | x :: r, L, t, h => by
    have he := add_err (x := x) h.1 h.2.1 h.2.2.1
    rw [goT, goD, ← he]
    split
    · next h0 =>
      obtain ⟨i1, i2⟩ := go_same (r := r) (add_good h h0)
      refine ⟨i1, fun h1 => ?_⟩
      obtain ⟨j1, j2⟩ := i2 h1
      exact ⟨j1, by rw [j2, List.append_assoc]; rfl⟩
    · next h0 => exact ⟨rfl, fun h1 => absurd h1 h0⟩
theorem build_same (l : List En) : (buildT l).1 = (buildD l).1 ∧ ((buildT l).1 = 0 → Good (buildT l).2 (buildD l).2 ∧ (buildD l).2 = l) := by
  rw [buildT, buildD]
  split
  · exact ⟨rfl, fun h => by cases h⟩
  · obtain ⟨h1, h2⟩ := go_same (r := l) good_root
    refine ⟨h1, fun h => ?_⟩
    obtain ⟨a, b⟩ := h2 h
    exact ⟨a, by rw [b]; rfl⟩
theorem goT_zero : ∀ {r : List En} {t : Tr}, (goT t r).1 ≠ 0 → (goT t r).2 = .zero
  | [], t, h => absurd rfl h
  | x :: r, t, h => by
    rw [goT] at h ⊢
    split
    · next h0 => rw [if_pos h0] at h; exact goT_zero h
    · rfl
theorem buildT_zero {l : List En} (h : (buildT l).1 ≠ 0) : (buildT l).2 = .zero := by
  rw [buildT] at h ⊢
  split
  · rfl
  · next h0 => rw [if_neg h0] at h; exact goT_zero h
end Go.Proofs.YtehfbokkcamliaaDoor
namespace Go.Proofs.YtehfbokkcamliaaDoor
open Go.RowKit Go.SL

/-- a kid's entry -/
def entOf (q : List (List UInt8)) (k : List UInt8 × Tr) : En := ⟨joinP (q ++ [k.1]), k.2.dir, k.2.data⟩
def sortT (q : List (List UInt8)) (p : Tr) : List En := p.kids.map (entOf q)
theorem bl_append : ∀ (s a b : List UInt8), Op.bytesLess (s ++ a) (s ++ b) = Op.bytesLess a b
  | [], _, _ => rfl
  | c :: s, a, b => by
    rw [Bool.eq_iff_iff, List.cons_append, List.cons_append, bl_cons, bl_append s a b]
    constructor
    · rintro (h | h)
      · omega
      · exact h.2
    · exact fun h => .inr ⟨rfl, h⟩
theorem bl_join (q : List (List UInt8)) (a b : List UInt8) : Op.bytesLess (joinP (q ++ [a])) (joinP (q ++ [b])) = Op.bytesLess a b := by
  by_cases h : q = []
  · subst h
    rw [List.nil_append, List.nil_append, joinP_one, joinP_one]
  · rw [joinP_end h, joinP_end h, bl_append]
    exact bl_append [47] a b
theorem sortT_rising {q : List (List UInt8)} {p : Tr} (h : Rising p.names) : Rising ((sortT q p).map En.path) := by
  intro i hi
  simp only [sortT, List.length_map] at hi
  simp only [sortT, List.getElem_map, entOf, bl_join]
  have := h i (by simpa [Tr.names] using hi)
  simpa [Tr.names] using this
theorem kidsD_nodup {L : List En} (h : (L.map En.path).Nodup) (p : List UInt8) : (kidsD L p).Nodup := by
  have h2 : ((kidsD L p).map En.path).Nodup := h.sublist (List.Sublist.map _ List.filter_sublist)
  exact (List.pairwise_map.1 h2).imp fun h e => h (by rw [e])
/-- what the document sorts -/
theorem sortT_perm {t p : Tr} {L : List En} {d : Nat} {q : List (List UInt8)} (hR : Rel t L) (hw : Tr.Wf d t) (hq : q.all isName = true) (lq : q.length ≤ 6) (hg : Tr.get? q t = some p) :
    (kidsD L (joinP q)).Perm (sortT q p) := by
  obtain ⟨r1, r2, r3⟩ := hR
  obtain ⟨e, he⟩ := wf_get hw hg
  have hr := Tr.wf_rising he
  have n2 : (sortT q p).Nodup := by
    have := nodup_rising (sortT_rising (q := q) hr)
    exact (List.pairwise_map.1 this).imp fun h e => h (by rw [e])
  refine (List.perm_ext_iff_of_nodup (kidsD_nodup r2 _) n2).2 fun y => ?_
  constructor
  · intro hy
    obtain ⟨hy1, hy2⟩ := List.mem_filter.1 hy
    obtain ⟨n, hn⟩ := (kidsD_iff r1 hq lq hy1).1 (beq_iff_eq.1 hy2)
    have hl := (r3 (q ++ [n]) (by simp) y.dir y.data).2 ⟨y, hy1, hn, rfl, rfl⟩
    rw [Tr.look?, get_snoc hg] at hl
    cases hk : p.kid? n with
    | none => rw [hk] at hl; cases hl
    | some k =>
      rw [hk] at hl
      simp only [Option.map_some, Option.some.injEq, Prod.mk.injEq] at hl
      refine List.mem_map.2 ⟨(n, k), Tr.kid_mem hk, ?_⟩
      have hp := (split_names (r1 y hy1).1).2.2.1
      rw [hn] at hp
      rw [entOf, hp, hl.1, hl.2]
  · intro hy
    obtain ⟨⟨n, k⟩, hk, rfl⟩ := List.mem_map.1 hy
    have hkk := (Tr.kid_iff hr).2 hk
    have hl : Tr.look? (q ++ [n]) t = some (k.dir, k.data) := by rw [Tr.look?, get_snoc hg, hkk]; rfl
    obtain ⟨x, hx, e1, e2, e3⟩ := (r3 _ (by simp) _ _).1 hl
    have hp := (split_names (r1 x hx).1).2.2.1
    rw [e1] at hp
    have hxe : x = entOf q (n, k) := by
      obtain ⟨xp, xd, xb⟩ := x
      simp only at e2 e3 hp
      rw [entOf, e2, e3, hp]
    rw [← hxe]
    exact List.mem_filter.2 ⟨hx, beq_iff_eq.2 ((kidsD_iff r1 hq lq hx).2 ⟨n, e1⟩)⟩
/-- all that is in a directory, so deep -/
def entT : Nat → List (List UInt8) → Tr → List En
  | 0, _, _ => []
  | d + 1, q, t => t.kids.flatMap fun k => entOf q k :: entT d (q ++ [k.1]) k.2
theorem entT_file {d : Nat} {q : List (List UInt8)} {t : Tr} (h : t.kids = []) : entT d q t = [] := by
  cases d with
  | zero => rfl
  | succ d => rw [entT, h]; rfl
/-- deeper does not tell more -/
theorem entT_deep : ∀ {d : Nat} {q : List (List UInt8)} {t : Tr}, Tr.Wf d t → entT (d + 1) q t = entT d q t
  | 0, q, t, h => by rw [entT_file h.1, entT_file h.1]
  | d + 1, q, t, h => by
    rw [entT, entT]
    have : ∀ k ∈ t.kids, (entOf q k :: entT (d + 1) (q ++ [k.1]) k.2) = entOf q k :: entT d (q ++ [k.1]) k.2 := fun k hk => by
      rw [entT_deep (h.2.2.2.2.2 k hk).2]
    rw [List.flatMap_def, List.flatMap_def, List.map_congr_left this]
end Go.Proofs.YtehfbokkcamliaaDoor
namespace Go.Proofs.YtehfbokkcamliaaDoor
open Go.RowKit Go.SL

/-- what is at names, as the program finds it (kE: what names are behind a file; nE: there is none) -/
def atT (kE nE : Int) : List (List UInt8) → Tr → Int × Tr
  | [], t => (0, t)
  | n :: r, t => if t.dir then (match t.kid? n with
    | none => (nE, .zero)
    | some k => atT kE nE r k) else (kE, .zero)
theorem atT_get {kE nE : Int} (hk : kE ≠ 0) (hn : nE ≠ 0) : ∀ {q : List (List UInt8)} {t : Tr} {d : Nat}, Tr.Wf d t → ((atT kE nE q t).1 = 0 ↔ (Tr.get? q t).isSome) ∧ (∀ p, Tr.get? q t = some p → (atT kE nE q t).2 = p)
  | [], t, d, _ => ⟨⟨fun _ => rfl, fun _ => rfl⟩, fun p h => by cases h; rfl⟩
  | n :: r, t, d, hw => by
    rw [atT, Tr.get?]
    cases hd : t.dir with
    | false =>
      have : t.kid? n = none := by rw [Tr.kid?, Tr.wf_file hw hd]; rfl
      rw [this]
      exact ⟨⟨fun h => absurd h hk, fun h => by cases h⟩, fun p h => by cases h⟩
    | true =>
      rw [if_pos rfl]
      cases hkd : t.kid? n with
      | none => exact ⟨⟨fun h => absurd h hn, fun h => by cases h⟩, fun p h => by cases h⟩
      | some k =>
        obtain ⟨e, _, he⟩ := Tr.wf_kid hw (Tr.kid_mem hkd)
        exact atT_get hk hn he
/-- a kid of a name, as the document looks for it: an entry of that path, right in the directory -/
theorem kid_entry {t p : Tr} {L : List En} {d : Nat} {q : List (List UInt8)} (hR : Rel t L) (hw : Tr.Wf d t) (hq : q.all isName = true) (lq : q.length ≤ 6) (hg : Tr.get? q t = some p) {n : List UInt8} (hn : isName n = true) {y : En} :
    (y ∈ kidsD L (joinP q) ∧ y.path = joinP (q ++ [n])) ↔ ∃ k, p.kid? n = some k ∧ y = entOf q (n, k) := by
  have hperm := sortT_perm hR hw hq lq hg
  obtain ⟨e, he⟩ := wf_get hw hg
  have hr := Tr.wf_rising he
  rw [hperm.mem_iff, sortT, List.mem_map]
  constructor
  · rintro ⟨⟨⟨m, k⟩, hk, rfl⟩, hp⟩
    have hm : m = n := by
      have hb := bl_irrefl (joinP (q ++ [m]))
      have h1 : joinP (q ++ [m]) = joinP (q ++ [n]) := hp
      have h2 : Op.bytesLess m n = false := by rw [← bl_join q, h1]; exact bl_irrefl _
      have h3 : Op.bytesLess n m = false := by rw [← bl_join q, h1]; exact bl_irrefl _
      by_cases h4 : m = n
      · exact h4
      · have := bl_total h4 h2
        rw [h3] at this; cases this
    subst hm
    exact ⟨k, (Tr.kid_iff hr).2 hk, rfl⟩
  · rintro ⟨k, hk, rfl⟩
    exact ⟨⟨(n, k), Tr.kid_mem hk, rfl⟩, rfl⟩
/-- no kid has a name that is none -/
theorem kid_name {t k : Tr} {d : Nat} {n : List UInt8} (hw : Tr.Wf d t) (h : t.kid? n = some k) : isName n = true := by
  cases d with
  | zero => have := Tr.kid_mem h; rw [hw.1] at this; cases this
  | succ d => exact (hw.2.2.2.2.2 _ (Tr.kid_mem h)).1
theorem get_names : ∀ {q : List (List UInt8)} {t p : Tr} {d : Nat}, Tr.Wf d t → Tr.get? q t = some p → q.all isName = true ∧ q.length ≤ d
  | [], _, _, _, _, _ => ⟨rfl, Nat.zero_le _⟩
  | n :: q, t, p, d, hw, h => by
    rw [Tr.get?] at h
    cases hk : t.kid? n with
    | none => rw [hk] at h; cases h
    | some k =>
      rw [hk] at h
      obtain ⟨e, rfl, he⟩ := Tr.wf_kid hw (Tr.kid_mem hk)
      obtain ⟨a, b⟩ := get_names he h
      refine ⟨?_, by simp only [List.length_cons]; omega⟩
      rw [List.all_cons, kid_name hw hk, a]; rfl
end Go.Proofs.YtehfbokkcamliaaDoor
namespace Go.Proofs.YtehfbokkcamliaaDoor
open Go.RowKit Go.SL

theorem rising_ext {a b : List (List UInt8)} (ha : Rising a) (hb : Rising b) (h : ∀ n, n ∈ a ↔ n ∈ b) : a = b := by
  have hp : a.Perm b := (List.perm_ext_iff_of_nodup (nodup_rising ha) (nodup_rising hb)).2 h
  have pa : a.Pairwise fun x y => Op.bytesLess x y = true := List.pairwise_iff_getElem.2 fun i j _ hj hij => ha.of hij hj
  have pb : b.Pairwise fun x y => Op.bytesLess x y = true := List.pairwise_iff_getElem.2 fun i j _ hj hij => hb.of hij hj
  refine hp.eq_of_pairwise (fun x y _ _ h1 h2 => ?_) pa pb
  rw [bl_asymm h1] at h2; cases h2
theorem tr_ext : ∀ {d : Nat} {t s : Tr}, Tr.Wf d t → Tr.Wf d s → (∀ q, Tr.look? q t = Tr.look? q s) → t = s
  | 0, .nd a b c, .nd a' b' c', ht, hs, h => by
    have h0 := h []
    simp only [Tr.look_nil, Tr.dir, Tr.data, Option.some.injEq, Prod.mk.injEq] at h0
    have e1 : c = [] := ht.1
    have e2 : c' = [] := hs.1
    rw [e1, e2, h0.1, h0.2]
  | d + 1, t, s, ht, hs, h => by
    have h0 := h []
    simp only [Tr.look_nil, Option.some.injEq, Prod.mk.injEq] at h0
    have rt := Tr.wf_rising ht
    have rs := Tr.wf_rising hs
    have some_kid : ∀ {u : Tr} {n : List UInt8}, (Tr.look? [n] u).isSome = (u.kid? n).isSome := fun {u n} => by
      rw [Tr.look_cons]
      cases u.kid? n <;> rfl
    have hmem : ∀ {u : Tr} {n : List UInt8}, n ∈ u.names ↔ (u.kid? n).isSome = true := fun {u n} => by
      have : n ∈ u.names ↔ isIn u.names n = true := by rw [isIn, List.contains_iff_mem]
      rw [this]
      cases hk : u.kid? n with
      | none => rw [Tr.kid_none.1 hk]; simp
      | some k =>
        cases hi : isIn u.names n with
        | true => simp
        | false => rw [Tr.kid_none.2 hi] at hk; cases hk
    have hn : t.names = s.names := rising_ext rt rs fun n => by
      rw [hmem, hmem, ← some_kid, ← some_kid, h [n]]
    have hlen : t.kids.length = s.kids.length := by
      have := congrArg List.length hn
      simpa [Tr.names] using this
    have hk : t.kids = s.kids := by
      refine List.ext_getElem hlen fun i h1 h2 => ?_
      have e1 : t.kids[i].1 = s.kids[i].1 := by
        have : t.names[i]'(by simpa [Tr.names] using h1) = s.names[i]'(by simpa [Tr.names] using h2) := by simp only [hn]
        simpa [Tr.names] using this
      have k1 := Tr.kid_at rt h1
      have k2 := Tr.kid_at rs h2
      rw [← e1] at k2
      have e2 : t.kids[i].2 = s.kids[i].2 := by
        refine tr_ext (ht.2.2.2.2.2 _ (List.getElem_mem h1)).2 (hs.2.2.2.2.2 _ (List.getElem_mem h2)).2 fun q => ?_
        have := h (t.kids[i].1 :: q)
        rw [Tr.look_cons, Tr.look_cons, k1, k2] at this
        exact this
      exact Prod.ext e1 e2
    obtain ⟨a, b, c⟩ := t
    obtain ⟨a', b', c'⟩ := s
    have hk' : c = c' := hk
    have ha : a = a' := h0.1
    have hb : b = b' := h0.2
    rw [ha, hb, hk']
/-- who is among all entries -/
theorem entT_mem : ∀ {d : Nat} {q : List (List UInt8)} {t : Tr}, Tr.Wf d t → ∀ {y : En}, y ∈ entT d q t ↔ ∃ s k, s ≠ [] ∧ Tr.get? s t = some k ∧ y = ⟨joinP (q ++ s), k.dir, k.data⟩
  | 0, q, t, h, y => by
    constructor
    · intro h1; cases h1
    · rintro ⟨s, k, hs, hg, _⟩
      rcases s with _ | ⟨n, r⟩
      · exact absurd rfl hs
      · rw [Tr.get?, Tr.kid?, h.1] at hg; cases hg
  | d + 1, q, t, h, y => by
    have hr := Tr.wf_rising h
    rw [entT, List.mem_flatMap]
    constructor
    · rintro ⟨⟨n, k⟩, hk, hy⟩
      have hkk := (Tr.kid_iff hr).2 hk
      rcases List.mem_cons.1 hy with rfl | hy
      · refine ⟨[n], k, by simp, ?_, rfl⟩
        rw [Tr.get?, hkk]; rfl
      · obtain ⟨s, p, _, hg, rfl⟩ := (entT_mem (h.2.2.2.2.2 _ hk).2).1 hy
        refine ⟨n :: s, p, by simp, ?_, ?_⟩
        · rw [Tr.get?, hkk]; exact hg
        · rw [List.append_assoc]; rfl
    · rintro ⟨s, p, hs, hg, rfl⟩
      rcases s with _ | ⟨n, r⟩
      · exact absurd rfl hs
      · rw [Tr.get?] at hg
        cases hk : t.kid? n with
        | none => rw [hk] at hg; cases hg
        | some k =>
          rw [hk] at hg
          refine ⟨(n, k), Tr.kid_mem hk, ?_⟩
          by_cases hr0 : r = []
          · subst hr0
            cases hg
            exact List.mem_cons.2 (.inl rfl)
          · refine List.mem_cons.2 (.inr ((entT_mem (h.2.2.2.2.2 _ (Tr.kid_mem hk)).2).2 ⟨r, p, hr0, hg, ?_⟩))
            rw [List.append_assoc]; rfl
end Go.Proofs.YtehfbokkcamliaaDoor
namespace Go.Proofs.YtehfbokkcamliaaDoor
open Go.RowKit Go.SL

/-- the names of all entries -/
def entS : Nat → List (List UInt8) → Tr → List (List (List UInt8))
  | 0, _, _ => []
  | d + 1, q, t => t.kids.flatMap fun k => (q ++ [k.1]) :: entS d (q ++ [k.1]) k.2
theorem entS_path : ∀ {d : Nat} {q : List (List UInt8)} {t : Tr}, (entT d q t).map En.path = (entS d q t).map joinP
  | 0, _, _ => rfl
  | d + 1, q, t => by
    rw [entT, entS, List.map_flatMap, List.map_flatMap]
    congr 1
    funext k
    rw [List.map_cons, List.map_cons, entS_path]; rfl
theorem entS_pre : ∀ {d : Nat} {q s : List (List UInt8)} {t : Tr}, s ∈ entS d q t → ∃ n r, s = q ++ n :: r ∧ n ∈ t.names
  | 0, _, _, _, h => by cases h
  | d + 1, q, s, t, h => by
    rw [entS, List.mem_flatMap] at h
    obtain ⟨k, hk, h⟩ := h
    have hn : k.1 ∈ t.names := List.mem_map.2 ⟨k, hk, rfl⟩
    rcases List.mem_cons.1 h with rfl | h
    · exact ⟨k.1, [], rfl, hn⟩
    · obtain ⟨n, r, rfl, _⟩ := entS_pre h
      exact ⟨k.1, n :: r, by rw [List.append_assoc]; rfl, hn⟩
theorem entS_nodup : ∀ {d : Nat} {q : List (List UInt8)} {t : Tr}, Tr.Wf d t → (entS d q t).Nodup
  | 0, _, _, _ => List.nodup_nil
  | d + 1, q, t, h => by
    have hr := nodup_rising (Tr.wf_rising h)
    rw [entS]
    refine List.pairwise_flatMap.2 ⟨fun k hk => ?_, ?_⟩
    · refine List.nodup_cons.2 ⟨fun hm => ?_, entS_nodup (h.2.2.2.2.2 k hk).2⟩
      obtain ⟨n, r, e, _⟩ := entS_pre hm
      have := congrArg List.length e
      simp at this
    · refine (List.pairwise_map.1 hr).imp fun {a b} hab x hx y hy e => ?_
      have pre : ∀ {k : List UInt8 × Tr} {x : List (List UInt8)}, x ∈ (q ++ [k.1]) :: entS d (q ++ [k.1]) k.2 → ∃ r, x = q ++ k.1 :: r := fun {k x} hx => by
        rcases List.mem_cons.1 hx with rfl | hx
        · exact ⟨[], rfl⟩
        · obtain ⟨n, r, rfl, _⟩ := entS_pre hx
          exact ⟨n :: r, by rw [List.append_assoc]; rfl⟩
      obtain ⟨r1, e1⟩ := pre hx
      obtain ⟨r2, e2⟩ := pre hy
      rw [e1, e2] at e
      have := List.append_cancel_left e
      exact hab (List.cons.inj this).1
/-- each entry's directory stands ahead of it -/
def Ahead (base : List UInt8) (l : List En) : Prop := ∀ A x B, l = A ++ x :: B → parP x.path = base ∨ ∃ y ∈ A, y.path = parP x.path ∧ y.dir = true
theorem Ahead.nil (b : List UInt8) : Ahead b [] := fun A x B h => by cases A <;> cases h
theorem Ahead.append {b : List UInt8} {l m : List En} (h1 : Ahead b l) (h2 : Ahead b m) : Ahead b (l ++ m) := by
  intro A x B h
  rcases List.append_eq_append_iff.1 h with ⟨C, e1, e2⟩ | ⟨C, e1, e2⟩
  · rcases h2 C x B e2 with h3 | ⟨y, hy, h4⟩
    · exact .inl h3
    · exact .inr ⟨y, by rw [e1]; simp [hy], h4⟩
  · cases C with
    | nil =>
      rw [List.nil_append] at e2
      rcases h2 [] x B (by rw [← e2]; rfl) with h3 | ⟨y, hy, _⟩
      · exact .inl h3
      · cases hy
    | cons c C =>
      rw [List.cons_append] at e2
      obtain ⟨rfl, _⟩ := List.cons.inj e2
      exact h1 A x C e1
theorem Ahead.flat {b : List UInt8} {α : Type} {f : α → List En} : ∀ {l : List α}, (∀ a ∈ l, Ahead b (f a)) → Ahead b (l.flatMap f)
  | [], _ => Ahead.nil b
  | a :: l, h => by
    rw [List.flatMap_cons]
    exact (h a (by simp)).append (Ahead.flat fun c hc => h c (by simp [hc]))
theorem entT_ahead : ∀ {d : Nat} {q : List (List UInt8)} {t : Tr}, Tr.Wf d t → Ahead (joinP q) (entT d q t)
  | 0, q, t, _ => Ahead.nil _
  | d + 1, q, t, h => by
    rw [entT]
    refine Ahead.flat fun k hk => ?_
    have hn := (h.2.2.2.2.2 k hk).1
    have hwk := (h.2.2.2.2.2 k hk).2
    have ih := entT_ahead (q := q ++ [k.1]) hwk
    intro A x B e
    cases A with
    | nil =>
      rw [List.nil_append] at e
      obtain ⟨rfl, _⟩ := List.cons.inj e
      exact .inl (parP_join hn)
    | cons a A =>
      rw [List.cons_append] at e
      obtain ⟨rfl, e2⟩ := List.cons.inj e
      rcases ih A x B e2 with h3 | ⟨y, hy, h4⟩
      · refine .inr ⟨entOf q k, by simp, h3.symm, ?_⟩
        cases hd : k.2.dir with
        | true => exact hd
        | false =>
          have := entT_file (d := d) (q := q ++ [k.1]) (Tr.wf_file hwk hd)
          rw [this] at e2
          cases A <;> cases e2
      · exact .inr ⟨y, by simp [hy], h4⟩
end Go.Proofs.YtehfbokkcamliaaDoor
namespace Go.Proofs.YtehfbokkcamliaaDoor
open Go.RowKit Go.SL

theorem all_mem {t : Tr} {L : List En} (h : Good t L) {y : En} : y ∈ entT 6 [] t ↔ y ∈ L := by
  obtain ⟨⟨r1, r2, r3⟩, hw, hd, hb⟩ := h
  rw [entT_mem hw]
  constructor
  · rintro ⟨s, k, hs, hg, rfl⟩
    obtain ⟨x, hx, e1, e2, e3⟩ := (r3 s hs k.dir k.data).1 (by rw [Tr.look?, hg]; rfl)
    have hp := (split_names (r1 x hx).1).2.2.1
    rw [e1] at hp
    obtain ⟨xp, xd, xb⟩ := x
    simp only at e2 e3 hp
    rw [List.nil_append, hp, ← e2, ← e3]
    exact hx
  · intro hy
    obtain ⟨_, _, c, e⟩ := split_names (r1 y hy).1
    have hne : splitL y.path ≠ [] := fun h => (r1 y hy).2 (e.1 h)
    have hl := (r3 _ hne y.dir y.data).2 ⟨y, hy, rfl, rfl, rfl⟩
    rw [Tr.look?] at hl
    cases hg : Tr.get? (splitL y.path) t with
    | none => rw [hg] at hl; cases hl
    | some k =>
      rw [hg] at hl
      simp only [Option.map_some, Option.some.injEq, Prod.mk.injEq] at hl
      exact ⟨splitL y.path, k, hne, hg, by rw [List.nil_append, c, hl.1, hl.2]⟩
theorem entS_names : ∀ {d : Nat} {q s : List (List UInt8)} {t : Tr}, Tr.Wf d t → s ∈ entS d q t → ∃ r, s = q ++ r ∧ r.all isName = true ∧ r.length ≤ d
  | 0, _, _, _, _, h => by cases h
  | d + 1, q, s, t, hw, h => by
    rw [entS, List.mem_flatMap] at h
    obtain ⟨k, hk, h⟩ := h
    obtain ⟨hn, hwk⟩ := hw.2.2.2.2.2 k hk
    rcases List.mem_cons.1 h with rfl | h
    · exact ⟨[k.1], rfl, by simpa using hn, by simp⟩
    · obtain ⟨r, rfl, a, b⟩ := entS_names hwk h
      exact ⟨k.1 :: r, by rw [List.append_assoc]; rfl, by rw [List.all_cons, hn, a]; rfl, by simp only [List.length_cons]; omega⟩
theorem all_nodup {t : Tr} (hw : Tr.Wf 6 t) : ((entT 6 [] t).map En.path).Nodup := by
  rw [entS_path]
  refine List.pairwise_map.2 ((List.Pairwise.and_mem.1 (entS_nodup (q := []) hw)).imp fun {a b} h e => ?_)
  obtain ⟨r1, e1, a1, b1⟩ := entS_names hw h.1
  obtain ⟨r2, e2, a2, b2⟩ := entS_names hw h.2.1
  rw [List.nil_append] at e1 e2
  subst e1 e2
  exact h.2.2 (joinP_inj a1 a2 b1 b2 e)
theorem all_perm {t : Tr} {L : List En} (h : Good t L) : (entT 6 [] t).Perm L := by
  have n1 : (entT 6 [] t).Nodup := (List.pairwise_map.1 (all_nodup h.2.1)).imp fun h e => h (by rw [e])
  have n2 : L.Nodup := (List.pairwise_map.1 h.1.2.1).imp fun h e => h (by rw [e])
  exact (List.perm_ext_iff_of_nodup n1 n2).2 fun y => all_mem h
theorem go_all {t : Tr} {L : List En} (h : Good t L) : ∀ {B A : List En} {u : Tr}, entT 6 [] t = A ++ B → Good u A → (goT u B).1 = 0
  | [], _, _, _, _ => rfl
  | x :: B, A, u, e, hu => by
    have hx : x ∈ L := (all_mem h).1 (by rw [e]; simp)
    obtain ⟨s1, s2⟩ := h.1.1 x hx
    have hnd := all_nodup h.2.1
    rw [e, List.map_append, List.nodup_append] at hnd
    have hah := entT_ahead (q := []) h.2.1 A x B e
    obtain ⟨s, k, hs, hg, hxk⟩ := (entT_mem h.2.1).1 ((all_mem h).2 hx)
    obtain ⟨d', hwk⟩ := wf_get h.2.1 hg
    obtain ⟨a, b, c, e0⟩ := split_names s1
    obtain ⟨r, n, hr⟩ := snoc_of_ne (fun h4 => s2 (e0.1 h4) : splitL x.path ≠ [])
    rw [hr] at a b c
    rw [List.all_append, Bool.and_eq_true] at a
    have hn : isName n = true := by simpa using a.2
    have lr : r.length ≤ 6 := by simp at b; omega
    have hpar : parP x.path = joinP r := by rw [← c, parP_join hn]
    have hE : addE A x = 0 := by
      rw [addE, if_neg (by simpa using s1), if_neg, if_neg]
      · have hsz := (Tr.wf_size hwk).1
        have hd8 : x.data.length ≤ 8192 := by rw [hxk]; exact hsz
        -- the directory of x, in the tree
        have hl : Tr.look? (r ++ [n]) t = some (x.dir, x.data) := (h.1.2.2 _ (by simp) _ _).2 ⟨x, hx, hr, rfl, rfl⟩
        have hgr : ∃ p, Tr.get? r t = some p := by
          cases hgp : Tr.get? r t with
          | some p => exact ⟨p, rfl⟩
          | none => rw [Tr.look?, get_append, hgp] at hl; cases hl
        obtain ⟨p, hp⟩ := hgr
        obtain ⟨d2, hwp⟩ := wf_get h.2.1 hp
        have h6 := (Tr.wf_size hwp).2
        have hkc := kids_count h.1 h.2.1 a.1 lr hp
        have hpm := ((all_perm h).filter fun y => parP y.path == joinP r).length_eq
        have hsub : (kidsD (A ++ [x]) (joinP r)).length ≤ (kidsD (entT 6 [] t) (joinP r)).length := by
          rw [e, show A ++ x :: B = (A ++ [x]) ++ B by simp]
          exact (List.Sublist.filter _ (List.sublist_append_left _ _)).length_le
        have hone : (kidsD (A ++ [x]) (joinP r)).length = (kidsD A (joinP r)).length + 1 := by
          rw [kidsD, List.filter_append, List.length_append, ← kidsD]
          congr 1
          simp [hpar]
        have hk2 : (kidsD (entT 6 [] t) (joinP r)).length = p.kids.length := by rw [← hkc]; exact hpm
        rw [hpar]
        omega
      · rintro (h1 | ⟨h1, h2⟩ | h1 | h1)
        · exact s2 h1
        · refine h2 ?_
          rw [hxk] at h1 ⊢
          exact Tr.wf_data hwk h1
        · rw [hasD, List.any_eq_true] at h1
          obtain ⟨y, hy, hyp⟩ := h1
          exact hnd.2.2 y.path (List.mem_map.2 ⟨y, hy, rfl⟩) x.path (by simp) (beq_iff_eq.1 hyp)
        · rcases hah with h2 | ⟨y, hy, h2, h3⟩
          · have h4 : parP x.path = [] := h2
            rw [dirD, h4] at h1
            cases h1
          · have : dirD A (parP x.path) = true := by
              rw [dirD, Bool.or_eq_true, List.any_eq_true]
              exact .inr ⟨y, hy, by rw [h2, h3]; simp⟩
            rw [this] at h1; cases h1
    have hT : (addT u x).1 = 0 := by rw [add_err hu.1 hu.2.1 hu.2.2.1, hE]
    rw [goT, if_pos hT]
    exact go_all h (by rw [e]; simp) (add_good hu hT)
/-- what is built of a tree's entries is that tree -/
theorem build_entries {t : Tr} {L : List En} (h : Good t L) (hl : L.length ≤ 64) : buildT (entT 6 [] t) = (0, t) := by
  have hlen := (all_perm h).length_eq
  have h0 : (goT root (entT 6 [] t)).1 = 0 := go_all h (A := []) rfl good_root
  obtain ⟨_, h2⟩ := go_same (r := entT 6 [] t) good_root
  obtain ⟨g1, g2⟩ := h2 h0
  rw [g2, List.nil_append] at g1
  have ht : (goT root (entT 6 [] t)).2 = t := by
    refine tr_ext g1.2.1 h.2.1 fun q => ?_
    by_cases hq : q = []
    · subst hq
      rw [Tr.look_nil, Tr.look_nil, g1.2.2.1, g1.2.2.2, h.2.2.1, h.2.2.2]
    · have key : ∀ d b, Tr.look? q (goT root (entT 6 [] t)).2 = some (d, b) ↔ Tr.look? q t = some (d, b) := fun d b => by
        rw [g1.1.2.2 q hq, h.1.2.2 q hq]
        constructor
        · rintro ⟨x, hx, h3⟩; exact ⟨x, (all_mem h).1 hx, h3⟩
        · rintro ⟨x, hx, h3⟩; exact ⟨x, (all_mem h).2 hx, h3⟩
      cases h3 : Tr.look? q t with
      | some v => obtain ⟨d, b⟩ := v; exact (key d b).2 h3
      | none =>
        cases h4 : Tr.look? q (goT root (entT 6 [] t)).2 with
        | none => rfl
        | some v => obtain ⟨d, b⟩ := v; rw [(key d b).1 h4] at h3; cases h3
  rw [buildT, if_neg (by omega)]
  exact Prod.ext h0 ht
end Go.Proofs.YtehfbokkcamliaaDoor
namespace Go.Proofs.YtehfbokkcamliaaDoor
open Go.RowKit Go.SL

/-- a kid's cells: its name, and the node: is it a directory, its data, the slice of its kids -/
def kC (k : List UInt8 × Tr) (v : Value) : List Value := [.string ⟨k.1.toArray⟩, .bool k.2.dir, .string ⟨k.2.data.toArray⟩, v]
def kCs (ks : List (List UInt8 × Tr)) (vs : List Value) : List Value := (List.zip ks vs).flatMap fun p => kC p.1 p.2
theorem kC_len (k : List UInt8 × Tr) (v : Value) : (kC k v).length = 4 := rfl
theorem kCs_len {ks : List (List UInt8 × Tr)} {vs : List Value} (h : vs.length = ks.length) : (kCs ks vs).length = ks.length * 4 := by
  rw [kCs, flatMap_len (fun p : (List UInt8 × Tr) × Value => kC p.1 p.2) 4 (fun _ => rfl), List.length_zip, h, Nat.min_self]
theorem kCs_nil : kCs [] [] = [] := rfl
theorem kCs_app {a b : List (List UInt8 × Tr)} {u v : List Value} (h : u.length = a.length) : kCs (a ++ b) (u ++ v) = kCs a u ++ kCs b v := by
  rw [kCs, List.zip_append h.symm, List.flatMap_append]; rfl
theorem kCs_cons (k : List UInt8 × Tr) (v : Value) (ks : List (List UInt8 × Tr)) (vs : List Value) : kCs (k :: ks) (v :: vs) = kC k v ++ kCs ks vs := rfl
theorem kCs_at {ks : List (List UInt8 × Tr)} {vs : List Value} (h : vs.length = ks.length) {i : Nat} (hi : i < ks.length) {j : Nat} {u : Value} (hu : (kC ks[i] (vs[i]'(by omega)))[j]? = some u) : (kCs ks vs)[i * 4 + j]? = some u :=
  flatMap_at (fun p : (List UInt8 × Tr) × Value => kC p.1 p.2) 4 (fun _ => rfl) _ i j (ks[i], vs[i]'(by omega)) u (by rw [List.getElem?_eq_getElem (by rw [List.length_zip]; omega)]; simp) hu
theorem kCs_take {ks : List (List UInt8 × Tr)} {vs : List Value} (h : vs.length = ks.length) (i : Nat) : (kCs ks vs).take (i * 4) = kCs (ks.take i) (vs.take i) := by
  by_cases hi : i ≤ ks.length
  · have hl : (kCs (ks.take i) (vs.take i)).length = i * 4 := by rw [kCs_len (by rw [List.length_take, List.length_take]; omega), List.length_take, Nat.min_eq_left hi]
    conv => lhs; rw [← List.take_append_drop i ks, ← List.take_append_drop i vs]
    rw [kCs_app (by rw [List.length_take, List.length_take]; omega), List.take_left' hl]
  · rw [List.take_of_length_le (by rw [kCs_len h]; omega), List.take_of_length_le (l := ks) (by omega), List.take_of_length_le (l := vs) (by omega)]
theorem kCs_drop {ks : List (List UInt8 × Tr)} {vs : List Value} (h : vs.length = ks.length) {i : Nat} (hi : i ≤ ks.length) : (kCs ks vs).drop (i * 4) = kCs (ks.drop i) (vs.drop i) := by
  have hl : (kCs (ks.take i) (vs.take i)).length = i * 4 := by rw [kCs_len (by rw [List.length_take, List.length_take]; omega), List.length_take, Nat.min_eq_left hi]
  conv => lhs; rw [← List.take_append_drop i ks, ← List.take_append_drop i vs]
  rw [kCs_app (by rw [List.length_take, List.length_take]; omega), List.drop_left' hl]

/-- what the list knows of memory: at this slice lie these kids, and all that is below them -/
inductive KidsAt (l : List HProp) : Value → List (List UInt8 × Tr) → Prop
  | mk (ao : Option Addr) (c : Nat) (ks : List (List UInt8 × Tr)) (vs : List Value) (hc : ks.length ≤ c) (hl : vs.length = ks.length) (hr : Knows l (reads (.slice ao ks.length c) ks.length (kCs ks vs)))
      (hk : ∀ (i : Nat) (h : i < ks.length) (h' : i < vs.length), KidsAt l vs[i] ks[i].2.kids) : KidsAt l (.slice ao ks.length c) ks
theorem KidsAt.mono {l m : List HProp} (h : ∀ p : World → Prop, Knows l p → Knows m p) {v : Value} {ks : List (List UInt8 × Tr)} (hk : KidsAt l v ks) : KidsAt m v ks := by
  induction hk with
  | mk ao c ks vs hc hl hr _ ih => exact .mk ao c ks vs hc hl (h _ hr) ih
theorem KidsAt.suf {l m : List HProp} {v : Value} {ks : List (List UInt8 × Tr)} (hk : KidsAt l v ks) (h : l <:+ m) : KidsAt m v ks := hk.mono fun _ hp => hp.suf h
theorem KidsAt.app {l : List HProp} {v : Value} {ks : List (List UInt8 × Tr)} (m : List HProp) (hk : KidsAt l v ks) : KidsAt (m ++ l) v ks := hk.suf (List.suffix_append m l)
theorem KidsAt.nil (l : List HProp) : KidsAt l (.slice none 0 0) [] := .mk none 0 [] [] (Nat.le_refl _) rfl (fun _ _ => reads_nil 0 0 rfl _) (fun i h => absurd h (by simp))
theorem KidsAt.slice {l : List HProp} {v : Value} {ks : List (List UInt8 × Tr)} (hk : KidsAt l v ks) : ∃ ao c, v = .slice ao ks.length c := by cases hk; exact ⟨_, _, rfl⟩
/-- a slice of kids, opened -/
theorem KidsAt.open {l : List HProp} {v : Value} {ks : List (List UInt8 × Tr)} (hk : KidsAt l v ks) : ∃ (ao : Option Addr) (c : Nat) (vs : List Value), v = .slice ao ks.length c ∧ ks.length ≤ c ∧ vs.length = ks.length ∧ Knows l (reads (.slice ao ks.length c) ks.length (kCs ks vs)) ∧
    (∀ (i : Nat) (h : i < ks.length) (h' : i < vs.length), KidsAt l vs[i] ks[i].2.kids) ∧ ∀ u ∈ kCs ks vs, u.oneCell' = true := by
  cases hk with
  | mk ao c ks vs hc hl hr hk =>
    refine ⟨ao, c, vs, rfl, hc, hl, hr, hk, fun u hu => ?_⟩
    rw [kCs, List.mem_flatMap] at hu
    obtain ⟨⟨k, v⟩, hp, hu⟩ := hu
    obtain ⟨i, hi, e⟩ := List.getElem_of_mem hp
    rw [List.getElem_zip] at e
    cases e
    rw [List.length_zip] at hi
    obtain ⟨ao', c', hv⟩ := (hk i (by omega) (by omega)).slice
    simp only [kC, List.mem_cons, List.not_mem_nil, or_false] at hu
    rcases hu with rfl | rfl | rfl | rfl
    · rfl
    · rfl
    · rfl
    · rw [hv]; rfl
/-- where a kid lies -/
theorem kids_at {w : World} {ao : Option Addr} {c : Nat} {ks : List (List UInt8 × Tr)} {vs : List Value} (h : vs.length = ks.length) (hr : reads (.slice ao ks.length c) ks.length (kCs ks vs) w) {i : Nat} (hi : i < ks.length) :
    ∃ b off, ao = some ⟨b, off, none⟩ ∧ ∀ j v, (kC ks[i] (vs[i]'(by omega)))[j]? = some v → w.cell? ⟨b, off + i * 4 + j, none⟩ = some v := by
  obtain ⟨b, off, rfl, hc⟩ := reads_form hr (by omega) (by rw [kCs_len h]; omega)
  refine ⟨b, off, rfl, fun j v hv => ?_⟩
  rw [Nat.add_assoc]
  exact hc _ _ (kCs_at h hi hv)
/-- a node, as the program has it -/
def nodeV (t : Tr) (v : Value) : Value := .agg #[.bool t.dir, .string ⟨t.data.toArray⟩, v]
end Go.Proofs.YtehfbokkcamliaaDoor
