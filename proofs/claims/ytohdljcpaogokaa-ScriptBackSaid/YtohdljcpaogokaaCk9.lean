/-
  The bytes of a directory's chunk, and of any chunk, as the program puts them.
-/
import Derived.Test.YtohdljcpaogokaaCk8
namespace Go.Proofs.Ytohdljcpaogokaa
open Go.RowKit Go.SL

set_option maxRecDepth 100000 in
set_option maxHeartbeats 1000000 in
attribute [-go_sem] Instr.loadAt in
theorem cPut_3 {ks : List Kid} {ao : Option Addr} {c : Nat} (hg : ∀ k ∈ ks, k.good) (h6 : ks.length ≤ 6) (hm : mayC ⟨3, [], ks⟩ = true) {l : List HProp} {w : World} (hE : Ent l w) (hk : Knows l (reads (.slice ao ks.length c) ks.length (kidCells ks))) :
    Calls Try.prog 23 #[.agg #[.int .u8 3, .string ⟨#[]⟩, .slice ao ks.length c]] w (Ret fun v w' => ∃ ao c, v = .tuple #[.slice ao (3 :: UInt8.ofNat ks.length :: kidsB true ks).length c, .int .i64 0] ∧ Ent (rowB ao c (3 :: UInt8.ofNat ks.length :: kidsB true ks) :: l) w') := by
  have Hm := SL.hid hm
  have Hg := SL.hid hg
  clear hm hg
  have hl0 : IntKind.u64.wrap (ks.length : Int) = ks.length := wrapU_id (by omega)
  go_enter Try.func23, Try.ntmps23
  go_wp2_with (first
    | go_skip
    | ((with_reducible (show Go.wpList _ _ _ (Go.Oper.mk _ (.box _ _) _ _ _ _ :: _) _ _)); refine wpl_box hE rfl rfl rfl ?_; clear hE; intro b1 w hE; simp only [Act.eval, Act.put, List.setIfInBounds_toArray, List.set_cons_zero, List.set_cons_succ, getD_lit, List.getD_cons_succ, List.getD_cons_zero, Value.cells] at hE)
    | ((with_reducible (show Go.wpList _ _ _ (Go.Oper.mk _ (.load _ (.tmp 1)) _ _ _ _ :: _) _ _)); refine wpl_loadW hE 0 rfl rfl rfl rfl Try.isAgg39 Try.sizeOf39 (xs := [.int .u8 3, .string ⟨#[]⟩, .slice ao ks.length c]) rfl ?_)
    | (go_at_call 66; have H := may_any (u := 3) (data := []) (ks := ks) Hg.out (by omega) hE hk.cons; rw [Hm.out] at H; refine H.mono ?_; clear H hE; rintro e w2 ⟨v, rfl, rfl, hE⟩))
  refine wp_region_held_drew (S := (fun w' => (Instr.loadAt 5 (.pointer (some ⟨b1, 0, none⟩))).run Try.prog w' = .ok (.int .u8 3) w' ∧ (Instr.loadAt 9 (.pointer (some ⟨b1, 1, none⟩))).run Try.prog w' = .ok (.string ⟨#[]⟩) w')) (by kernel_rfl) ⟨atV hE.drew 0 rfl (by simp [go_sem]) rfl, atV hE.drew 0 rfl (by simp [go_sem]) rfl⟩ (fun hS => ?_)
  refine wpAnyH_take (i := 1) (oi := { dst := some 12, op := Go.Op.fieldAddr 39 (Go.Operand.tmp 1) 0, type := 0, pos := "chunk.go:102", after := #[], guard := none }) (v := ?_) rfl (by kernel_rfl) (by kernel_rfl) (by kernel_rfl) (fun _ _ _ h => h) (Or.inl ⟨by rfl, ?_⟩) hS ?_
  rotate_left
  · (intro w hSw; (try dsimp only at hSw); go_simp; (try with_reducible rfl))
  try simp only [Act.put, List.setIfInBounds_toArray, List.set_cons_zero, List.set_cons_succ]
  refine wpAnyH_take (i := 2) (oi := { dst := some 13, op := Go.Op.load 5 (Go.Operand.tmp 12), type := 5, pos := "chunk.go:102", after := #[{ on := 1, ground := Go.Ground.data }], guard := none }) (v := ?_) rfl (by kernel_rfl) (by kernel_rfl) (by kernel_rfl) (fun _ _ _ h => h) (Or.inl ⟨by rfl, ?_⟩) hS ?_
  rotate_left
  · (intro w hSw; (try dsimp only at hSw); go_simp; (try with_reducible rfl))
  try simp only [Act.put, List.setIfInBounds_toArray, List.set_cons_zero, List.set_cons_succ]
  refine wpAnyH_take (i := 3) (oi := { dst := some 14, op := Go.Op.convert 5 91 (Go.Operand.tmp 13), type := 91, pos := "chunk.go:102", after := #[{ on := 2, ground := Go.Ground.data }], guard := none }) (v := ?_) rfl (by kernel_rfl) (by kernel_rfl) (by kernel_rfl) (fun _ _ _ h => h) (Or.inl ⟨by rfl, ?_⟩) hS ?_
  rotate_left
  · (intro w hSw; (try dsimp only at hSw); go_simp; (try with_reducible rfl))
  try simp only [Act.put, List.setIfInBounds_toArray, List.set_cons_zero, List.set_cons_succ]
  refine wpAnyH_take (i := 5) (oi := { dst := some 16, op := Go.Op.fieldAddr 39 (Go.Operand.tmp 1) 1, type := 0, pos := "chunk.go:102", after := #[], guard := none }) (v := ?_) rfl (by kernel_rfl) (by kernel_rfl) (by kernel_rfl) (fun _ _ _ h => h) (Or.inl ⟨by rfl, ?_⟩) hS ?_
  rotate_left
  · (intro w hSw; (try dsimp only at hSw); go_simp; (try with_reducible rfl))
  try simp only [Act.put, List.setIfInBounds_toArray, List.set_cons_zero, List.set_cons_succ]
  refine wpAnyH_take (i := 6) (oi := { dst := some 17, op := Go.Op.load 9 (Go.Operand.tmp 16), type := 9, pos := "chunk.go:102", after := #[{ on := 5, ground := Go.Ground.data }], guard := none }) (v := ?_) rfl (by kernel_rfl) (by kernel_rfl) (by kernel_rfl) (fun _ _ _ h => h) (Or.inl ⟨by rfl, ?_⟩) hS ?_
  rotate_left
  · (intro w hSw; (try dsimp only at hSw); go_simp; (try with_reducible rfl))
  try simp only [Act.put, List.setIfInBounds_toArray, List.set_cons_zero, List.set_cons_succ]
  refine wpAnyH_ready (rs := [0]) (by kernel_rfl) (by simp) ?_
  refine (AllReadyH.cons (o := { dst := some 11, op := Go.Op.call { callee := Go.Callee.value (Go.Operand.func 41), args := #[], argTypes := #[] }, type := 88, pos := "chunk.go:102", after := #[], guard := none }) rfl (fun K hK => ?_) AllReadyH.nil)
  (go_simp; refine (New_any hE.drew).mono ?_; rintro e w3 ⟨v, rfl, p, rfl, hE3⟩)
  refine hK.out _ _ ⟨atV hE3 1 rfl (by simp [go_sem]) rfl, atV hE3 1 rfl (by simp [go_sem]) rfl⟩ (fun hS => ?_)
  clear hK K
  try simp only [Act.put, List.setIfInBounds_toArray, List.set_cons_zero, List.set_cons_succ]
  refine wpAnyH_ready (rs := [4]) (by kernel_rfl) (by simp) ?_
  refine (AllReadyH.cons (o := { dst := some 15, op := Go.Op.call { callee := Go.Callee.value (Go.Operand.func 42), args := #[Go.Operand.tmp 11, Go.Operand.const (Go.Value.int Go.IntKind.i64 1), Go.Operand.tmp 14], argTypes := #[88, 3, 91] }, type := 88, pos := "chunk.go:102", after := #[{ on := 0, ground := Go.Ground.data }, { on := 3, ground := Go.Ground.data }, { on := 0, ground := Go.Ground.chain }], guard := none }) rfl (fun K hK => ?_) AllReadyH.nil)
  (go_simp; refine (pPut1 (n := 3) (by omega) hE3 (by simp)).mono ?_; rintro e w4 ⟨v, rfl, rfl, hE4⟩)
  refine hK.out _ _ ⟨atV hE4 1 rfl (by simp [go_sem]) rfl, atV hE4 1 rfl (by simp [go_sem]) rfl⟩ (fun hS => ?_)
  clear hK K
  try simp only [Act.put, List.setIfInBounds_toArray, List.set_cons_zero, List.set_cons_succ]
  refine wpAnyH_ready (rs := [7]) (by kernel_rfl) (by simp) ?_
  refine (AllReadyH.cons (o := { dst := some 18, op := Go.Op.call { callee := Go.Callee.value (Go.Operand.func 48), args := #[Go.Operand.tmp 15, Go.Operand.tmp 17], argTypes := #[88, 9] }, type := 88, pos := "chunk.go:102", after := #[{ on := 4, ground := Go.Ground.data }, { on := 6, ground := Go.Ground.data }, { on := 4, ground := Go.Ground.chain }], guard := none }) rfl (fun K hK => ?_) AllReadyH.nil)
  (go_simp; refine (Text_any p [] hE4 (by simp)).mono ?_; rintro e w5 ⟨v, rfl, rfl, hE5⟩)
  refine hK.out _ _ ⟨atV hE5 1 rfl (by simp [go_sem]) rfl, atV hE5 1 rfl (by simp [go_sem]) rfl⟩ (fun hS => ?_)
  clear hK K
  try simp only [Act.put, List.setIfInBounds_toArray, List.set_cons_zero, List.set_cons_succ]
  refine wpAnyH_take (i := 8) (oi := { dst := some 4, op := Go.Op.assign (Go.Operand.tmp 18), type := 88, pos := "chunk.go:102", after := #[{ on := 7, ground := Go.Ground.data }, { on := 7, ground := Go.Ground.chain }, { on := 0, ground := Go.Ground.phase }, { on := 1, ground := Go.Ground.phase }, { on := 2, ground := Go.Ground.phase }, { on := 3, ground := Go.Ground.phase }, { on := 4, ground := Go.Ground.phase }, { on := 5, ground := Go.Ground.phase }, { on := 6, ground := Go.Ground.phase }, { on := 7, ground := Go.Ground.phase }], guard := none }) (v := ?_) rfl (by kernel_rfl) (by kernel_rfl) (by kernel_rfl) (fun _ _ _ h => h) (Or.inl ⟨by rfl, ?_⟩) hS ?_
  rotate_left
  · (intro w hSw; (try dsimp only at hSw); go_simp; (try with_reducible rfl))
  try simp only [Act.put, List.setIfInBounds_toArray, List.set_cons_zero, List.set_cons_succ]
  refine wpAnyH_done (by kernel_rfl) ?_ _
  go_wp2_with (first
    | go_skip
    | ((with_reducible (show Go.wpList _ _ _ (Go.Oper.mk _ (.load _ _) _ _ _ _ :: _) _ _)); refine wpl_load1 hE5 1 rfl rfl rfl rfl (by simp [go_sem]) rfl ?_)
    | ((with_reducible (show Go.wpList _ _ _ (Go.Oper.mk _ (.load _ _) _ _ _ _ :: _) _ _)); refine wpl_load1 hE6 1 rfl rfl rfl rfl (by simp [go_sem]) rfl ?_)
    | (go_at_call 42; have H := pPut1 (n := ks.length) (by omega) hE5 (by simp); refine H.mono ?_; clear H hE5; rintro e w6 ⟨v, rfl, rfl, hE6⟩))
  go_loopw [31] (fun i wr => CPutRel true 3 ks p (pt b1 (.cells #[.int .u8 3, .string ⟨#[]⟩, .slice ao ks.length c] 39) :: l) i wr) (fun i _ => ks.length - (intOf i).toNat)
  case atStart => exact ⟨0, Nat.zero_le _, rfl, hE6⟩
  case round =>
    clear hE6
    obtain ⟨k, hkl, rfl, hE⟩ := hrel
    by_cases hlt : k < ks.length
    · obtain ⟨b, off, rfl, _⟩ := reads_form (hk _ hE.tail.tail) (by omega) (by rw [kidCells_len Hg.out]; omega)
      have hcx := kid_cells Hg.out (hk _ hE.tail.tail) hlt
      have hlen := kidsB_len true 16 (ks.take k) (fun k hk => Hg.out k (List.mem_of_mem_take hk)) (fun k hk _ => mayC_dir Hm.out rfl k (List.mem_of_mem_take hk))
      rw [List.length_take] at hlen
      have Hs := SL.hid (kidsB_snoc true hlt)
      have Hx := SL.hid (Hg.out _ (List.getElem_mem hlt))
      have Hnl := SL.hid (mayC_dir Hm.out rfl _ (List.getElem_mem hlt))
      generalize ks[k] = x at *
      have Hcx := SL.hid hcx
      clear hcx
      have H36 := SL.hid (kcells_len Hx.out)
      have Hone := SL.hid (kcells_one x)
      have K2 := SL.hid (kc2 Hx.out)
      have K34 := SL.hid (kc34 Hx.out)
      have K35 := SL.hid (kc35 Hx.out)
      have H32 := SL.hid (show (bvals x.hash).length = 32 by rw [bvals_length, Hx.out.1])
      have Hh := SL.hid Hx.out.1
      have Hbg := SL.hid x.height.toNat_lt
      have hwg : IntKind.u64.wrap (x.height.toNat : Int) = x.height.toNat := wrapU_id (by have := x.height.toNat_lt; omega)
      have hws : IntKind.u64.wrap (x.size : Int) = x.size := wrapU_id (by have := Hx.out.2; omega)
      have Hsz := SL.hid Hx.out.2
      have Hkb := SL.hid (show kidB true x = (if x.dir then 1 else 0) :: (UInt8.ofNat x.name.length :: x.name) ++ (x.hash ++ [UInt8.ofNat x.height.toNat] ++ be 4 x.size) by simp [kidB])
      have K0 := SL.hid (kc0 x)
      have K1 := SL.hid (kc1 x)
      have hbl : (kidsB true (ks.take k)).length ≤ 1000 := by omega
      clear hlen
      generalize hpre : (3 :: UInt8.ofNat ks.length :: kidsB true (ks.take k)) = pre at hE
      have hpl : pre.length ≤ 1002 := by rw [← hpre]; simp; omega
      have Hpre := SL.hid hpre
      clear hpre
      generalize x.height.toNat = g at *
      generalize x.size = sz at *
      generalize x.hash = hs at *
      generalize x.name = nm at *
      generalize x.dir = dr at *
      generalize kcells x = xs at *
      cases dr with
      | true =>
        go_wp2_with (first
          | go_skip
          | ((with_reducible (show Go.wpList _ _ _ (Go.Oper.mk _ (.load 59 _) _ _ _ _ :: _) _ _)); refine wpl_loadC rfl rfl rfl Try.isAgg59 Try.sizeOf59 xs H36.out Hcx.out ?_)
          | ((with_reducible (show Go.wpList _ _ _ (Go.Oper.mk _ (.alloc _) _ _ _ _ :: _) _ _)); refine wpl_allocN hE rfl rfl (n := 36) (by kernel_rfl) ?_; clear hE; intro b6 cs w1 hq hE6)
          | ((with_reducible (show Go.wpList _ _ _ (Go.Oper.mk _ (.store _ _ _) _ _ _ _ :: _) _ _)); refine wpl_storeN hE6 0 rfl rfl rfl rfl rfl Try.sizeOf59 H36.out Hone.out hq ?_; clear hE6; intro w1 hE7; simp only [List.set_cons_zero] at hE7)
          | ((with_reducible (show Go.wpList _ _ _ (Go.Oper.mk _ (.load 4 _) _ _ _ _ :: _) _ _)); refine wpl_load1 hE7 0 rfl rfl rfl rfl (by simp [go_sem]) K1.out ?_)
          | ((with_reducible (show Go.wpList _ _ _ (Go.Oper.mk _ (.load _ _) _ _ _ _ :: _) _ _)); refine wpl_load1 hE7 2 rfl rfl rfl rfl (by simp [go_sem]) rfl ?_))
        refine wp_region_held_drew (S := (fun w' => (Instr.loadAt 9 (.pointer (some ⟨b6, 0, none⟩))).run Try.prog w' = .ok (.string ⟨nm.toArray⟩) w')) (by kernel_rfl) (atV hE7.drew 0 rfl (by simp [go_sem]) K0.out) (fun hS => ?_)
        refine wpAnyH_take (i := 0) (oi := { dst := some 40, op := Go.Op.move (Go.Operand.tmp 4), type := 88, pos := "chunk.go:112", after := #[], guard := none }) (v := ?_) rfl (by kernel_rfl) (by kernel_rfl) (by kernel_rfl) (fun _ _ _ h => h) (Or.inl ⟨by rfl, ?_⟩) hS ?_
        rotate_left
        · (intro w hSw; (try dsimp only at hSw); go_simp; (try with_reducible rfl))
        try simp only [Act.put, List.setIfInBounds_toArray, List.set_cons_zero, List.set_cons_succ]
        refine wpAnyH_take (i := 1) (oi := { dst := some 41, op := Go.Op.move (Go.Operand.tmp 7), type := 91, pos := "chunk.go:112", after := #[], guard := none }) (v := ?_) rfl (by kernel_rfl) (by kernel_rfl) (by kernel_rfl) (fun _ _ _ h => h) (Or.inl ⟨by rfl, ?_⟩) hS ?_
        rotate_left
        · (intro w hSw; (try dsimp only at hSw); go_simp; (try with_reducible rfl))
        try simp only [Act.put, List.setIfInBounds_toArray, List.set_cons_zero, List.set_cons_succ]
        refine wpAnyH_take (i := 3) (oi := { dst := some 43, op := Go.Op.fieldAddr 59 (Go.Operand.tmp 6) 0, type := 0, pos := "chunk.go:112", after := #[], guard := none }) (v := ?_) rfl (by kernel_rfl) (by kernel_rfl) (by kernel_rfl) (fun _ _ _ h => h) (Or.inl ⟨by rfl, ?_⟩) hS ?_
        rotate_left
        · (intro w hSw; (try dsimp only at hSw); go_simp; (try with_reducible rfl))
        try simp only [Act.put, List.setIfInBounds_toArray, List.set_cons_zero, List.set_cons_succ]
        refine wpAnyH_take (i := 4) (oi := { dst := some 44, op := Go.Op.load 9 (Go.Operand.tmp 43), type := 9, pos := "chunk.go:112", after := #[{ on := 3, ground := Go.Ground.data }], guard := none }) (v := ?_) rfl (by kernel_rfl) (by kernel_rfl) (by kernel_rfl) (fun _ _ _ h => h) (Or.inl ⟨by rfl, ?_⟩) hS ?_
        rotate_left
        · (intro w hSw; (try dsimp only at hSw); go_simp; (try with_reducible rfl))
        try simp only [Act.put, List.setIfInBounds_toArray, List.set_cons_zero, List.set_cons_succ]
        refine wpAnyH_ready (rs := [2]) (by kernel_rfl) (by simp) ?_
        refine (AllReadyH.cons (o := { dst := some 42, op := Go.Op.call { callee := Go.Callee.value (Go.Operand.func 42), args := #[Go.Operand.tmp 40, Go.Operand.const (Go.Value.int Go.IntKind.i64 1), Go.Operand.tmp 41], argTypes := #[88, 3, 91] }, type := 88, pos := "chunk.go:112", after := #[{ on := 0, ground := Go.Ground.data }, { on := 1, ground := Go.Ground.data }], guard := none }) rfl (fun K hK => ?_) AllReadyH.nil)
        (go_simp; refine (pPut1 (n := 1) (by omega) (hE7.drew.front 1 rfl) (by omega)).mono ?_; rintro e wb ⟨v, rfl, rfl, hEb⟩)
        refine hK.out _ _ (atV hEb 1 rfl (by simp [go_sem]) K0.out) (fun hS => ?_)
        clear hK K
        try simp only [Act.put, List.setIfInBounds_toArray, List.set_cons_zero, List.set_cons_succ]
        refine wpAnyH_ready (rs := [5]) (by kernel_rfl) (by simp) ?_
        refine (AllReadyH.cons (o := { dst := some 45, op := Go.Op.call { callee := Go.Callee.value (Go.Operand.func 67), args := #[Go.Operand.tmp 42, Go.Operand.tmp 44], argTypes := #[88, 9] }, type := 88, pos := "chunk.go:112", after := #[{ on := 2, ground := Go.Ground.data }, { on := 4, ground := Go.Ground.data }, { on := 2, ground := Go.Ground.chain }], guard := none }) rfl (fun K hK => ?_) AllReadyH.nil)
        (go_simp; refine (Name_ok p nm (by have := Hnl.out; omega) hEb (by simp; omega)).mono ?_; rintro e wc ⟨v, rfl, rfl, hEc⟩)
        refine hK.out _ _ (atV hEc 1 rfl (by simp [go_sem]) K0.out) (fun hS => ?_)
        clear hK K
        try simp only [Act.put, List.setIfInBounds_toArray, List.set_cons_zero, List.set_cons_succ]
        refine wpAnyH_done (by kernel_rfl) ?_ _
        have hnl := Hnl.out
        replace hE7 := hEc.front 1 rfl
        simp only [List.eraseIdx_cons_succ, List.eraseIdx_cons_zero] at hE7
        clear hEb hEc
        generalize hpr2 : pre ++ [UInt8.ofNat 1] ++ UInt8.ofNat nm.length :: nm = pr2 at hE7
        have hpl2 : pr2.length ≤ 1040 := by rw [← hpr2]; simp; omega
        have Hpr2 := SL.hid hpr2
        clear hpr2
        go_wp2
        refine wp_region_held_drew (S := (fun w' => (Instr.loadAt 56 (.pointer (some ⟨b6, 2, none⟩))).run Try.prog w' = .ok (.agg (bvals hs).toArray) w' ∧ (Instr.loadAt 5 (.pointer (some ⟨b6, 34, none⟩))).run Try.prog w' = .ok (.int .u8 g) w' ∧ (Instr.loadAt 57 (.pointer (some ⟨b6, 35, none⟩))).run Try.prog w' = .ok (.int .u32 sz) w')) (by kernel_rfl) ⟨atA hE7.drew 0 rfl Try.isAgg56 Try.sizeOf56 H32.out K2.out, atV hE7.drew 0 rfl (by simp [go_sem]) K34.out, atV hE7.drew 0 rfl (by simp [go_sem]) K35.out⟩ (fun hS => ?_)
        refine wpAnyH_take (i := 0) (oi := { dst := some 46, op := Go.Op.move (Go.Operand.tmp 4), type := 88, pos := "chunk.go:114", after := #[], guard := none }) (v := ?_) rfl (by kernel_rfl) (by kernel_rfl) (by kernel_rfl) (fun _ _ _ h => h) (Or.inl ⟨by rfl, ?_⟩) hS ?_
        rotate_left
        · (intro w hSw; (try dsimp only at hSw); go_simp; (try with_reducible rfl))
        try simp only [Act.put, List.setIfInBounds_toArray, List.set_cons_zero, List.set_cons_succ]
        refine wpAnyH_take (i := 1) (oi := { dst := some 47, op := Go.Op.fieldAddr 59 (Go.Operand.tmp 6) 2, type := 0, pos := "chunk.go:114", after := #[], guard := none }) (v := ?_) rfl (by kernel_rfl) (by kernel_rfl) (by kernel_rfl) (fun _ _ _ h => h) (Or.inl ⟨by rfl, ?_⟩) hS ?_
        rotate_left
        · (intro w hSw; (try dsimp only at hSw); go_simp; (try with_reducible rfl))
        try simp only [Act.put, List.setIfInBounds_toArray, List.set_cons_zero, List.set_cons_succ]
        refine wpAnyH_take (i := 2) (oi := { dst := some 48, op := Go.Op.load 56 (Go.Operand.tmp 47), type := 56, pos := "chunk.go:114", after := #[{ on := 1, ground := Go.Ground.data }], guard := none }) (v := ?_) rfl (by kernel_rfl) (by kernel_rfl) (by kernel_rfl) (fun _ _ _ h => h) (Or.inl ⟨by rfl, ?_⟩) hS ?_
        rotate_left
        · (intro w hSw; (try dsimp only at hSw); go_simp; (try with_reducible rfl))
        try simp only [Act.put, List.setIfInBounds_toArray, List.set_cons_zero, List.set_cons_succ]
        refine wpAnyH_take (i := 4) (oi := { dst := some 50, op := Go.Op.fieldAddr 59 (Go.Operand.tmp 6) 3, type := 0, pos := "chunk.go:114", after := #[], guard := none }) (v := ?_) rfl (by kernel_rfl) (by kernel_rfl) (by kernel_rfl) (fun _ _ _ h => h) (Or.inl ⟨by rfl, ?_⟩) hS ?_
        rotate_left
        · (intro w hSw; (try dsimp only at hSw); go_simp; (try with_reducible rfl))
        try simp only [Act.put, List.setIfInBounds_toArray, List.set_cons_zero, List.set_cons_succ]
        refine wpAnyH_take (i := 5) (oi := { dst := some 51, op := Go.Op.load 5 (Go.Operand.tmp 50), type := 5, pos := "chunk.go:114", after := #[{ on := 4, ground := Go.Ground.data }], guard := none }) (v := ?_) rfl (by kernel_rfl) (by kernel_rfl) (by kernel_rfl) (fun _ _ _ h => h) (Or.inl ⟨by rfl, ?_⟩) hS ?_
        rotate_left
        · (intro w hSw; (try dsimp only at hSw); go_simp; (try with_reducible rfl))
        try simp only [Act.put, List.setIfInBounds_toArray, List.set_cons_zero, List.set_cons_succ]
        refine wpAnyH_take (i := 6) (oi := { dst := some 52, op := Go.Op.convert 5 91 (Go.Operand.tmp 51), type := 91, pos := "chunk.go:114", after := #[{ on := 5, ground := Go.Ground.data }], guard := none }) (v := ?_) rfl (by kernel_rfl) (by kernel_rfl) (by kernel_rfl) (fun _ _ _ h => h) (Or.inl ⟨by rfl, ?_⟩) hS ?_
        rotate_left
        · (intro w hSw; (try dsimp only at hSw); go_simp; (try with_reducible rfl))
        try simp only [Act.put, List.setIfInBounds_toArray, List.set_cons_zero, List.set_cons_succ]
        refine wpAnyH_take (i := 8) (oi := { dst := some 54, op := Go.Op.fieldAddr 59 (Go.Operand.tmp 6) 4, type := 0, pos := "chunk.go:114", after := #[], guard := none }) (v := ?_) rfl (by kernel_rfl) (by kernel_rfl) (by kernel_rfl) (fun _ _ _ h => h) (Or.inl ⟨by rfl, ?_⟩) hS ?_
        rotate_left
        · (intro w hSw; (try dsimp only at hSw); go_simp; (try with_reducible rfl))
        try simp only [Act.put, List.setIfInBounds_toArray, List.set_cons_zero, List.set_cons_succ]
        refine wpAnyH_take (i := 9) (oi := { dst := some 55, op := Go.Op.load 57 (Go.Operand.tmp 54), type := 57, pos := "chunk.go:114", after := #[{ on := 8, ground := Go.Ground.data }], guard := none }) (v := ?_) rfl (by kernel_rfl) (by kernel_rfl) (by kernel_rfl) (fun _ _ _ h => h) (Or.inl ⟨by rfl, ?_⟩) hS ?_
        rotate_left
        · (intro w hSw; (try dsimp only at hSw); go_simp; (try with_reducible rfl))
        try simp only [Act.put, List.setIfInBounds_toArray, List.set_cons_zero, List.set_cons_succ]
        refine wpAnyH_take (i := 10) (oi := { dst := some 56, op := Go.Op.convert 57 91 (Go.Operand.tmp 55), type := 91, pos := "chunk.go:114", after := #[{ on := 9, ground := Go.Ground.data }], guard := none }) (v := ?_) rfl (by kernel_rfl) (by kernel_rfl) (by kernel_rfl) (fun _ _ _ h => h) (Or.inl ⟨by rfl, ?_⟩) hS ?_
        rotate_left
        · (intro w hSw; (try dsimp only at hSw); go_simp; (try with_reducible rfl))
        try simp only [Act.put, List.setIfInBounds_toArray, List.set_cons_zero, List.set_cons_succ]
        refine wpAnyH_ready (rs := [3]) (by kernel_rfl) (by simp) ?_
        refine (AllReadyH.cons (o := { dst := some 49, op := Go.Op.call { callee := Go.Callee.value (Go.Operand.func 68), args := #[Go.Operand.tmp 46, Go.Operand.tmp 48], argTypes := #[88, 56] }, type := 88, pos := "chunk.go:114", after := #[{ on := 0, ground := Go.Ground.data }, { on := 2, ground := Go.Ground.data }], guard := none }) rfl (fun K hK => ?_) AllReadyH.nil)
        (go_simp; refine (Hash_any p hs Hh.out (hE7.drew.front 1 rfl) (by omega)).mono ?_; rintro e w8 ⟨v, rfl, rfl, hE8⟩)
        refine hK.out _ _ ⟨atA hE8 1 rfl Try.isAgg56 Try.sizeOf56 H32.out K2.out, atV hE8 1 rfl (by simp [go_sem]) K34.out, atV hE8 1 rfl (by simp [go_sem]) K35.out⟩ (fun hS => ?_)
        clear hK K
        try simp only [Act.put, List.setIfInBounds_toArray, List.set_cons_zero, List.set_cons_succ]
        refine wpAnyH_ready (rs := [7]) (by kernel_rfl) (by simp) ?_
        refine (AllReadyH.cons (o := { dst := some 53, op := Go.Op.call { callee := Go.Callee.value (Go.Operand.func 42), args := #[Go.Operand.tmp 49, Go.Operand.const (Go.Value.int Go.IntKind.i64 1), Go.Operand.tmp 52], argTypes := #[88, 3, 91] }, type := 88, pos := "chunk.go:114", after := #[{ on := 3, ground := Go.Ground.data }, { on := 6, ground := Go.Ground.data }, { on := 3, ground := Go.Ground.chain }], guard := none }) rfl (fun K hK => ?_) AllReadyH.nil)
        (go_simp; refine (pPut1 (n := g) Hbg.out hE8 (by rw [List.length_append, Hh.out]; omega)).mono ?_; rintro e w9 ⟨v, rfl, rfl, hE9⟩)
        refine hK.out _ _ ⟨atA hE9 1 rfl Try.isAgg56 Try.sizeOf56 H32.out K2.out, atV hE9 1 rfl (by simp [go_sem]) K34.out, atV hE9 1 rfl (by simp [go_sem]) K35.out⟩ (fun hS => ?_)
        clear hK K
        try simp only [Act.put, List.setIfInBounds_toArray, List.set_cons_zero, List.set_cons_succ]
        refine wpAnyH_ready (rs := [11]) (by kernel_rfl) (by simp) ?_
        refine (AllReadyH.cons (o := { dst := some 57, op := Go.Op.call { callee := Go.Callee.value (Go.Operand.func 42), args := #[Go.Operand.tmp 53, Go.Operand.const (Go.Value.int Go.IntKind.i64 4), Go.Operand.tmp 56], argTypes := #[88, 3, 91] }, type := 88, pos := "chunk.go:114", after := #[{ on := 7, ground := Go.Ground.data }, { on := 10, ground := Go.Ground.data }, { on := 7, ground := Go.Ground.chain }], guard := none }) rfl (fun K hK => ?_) AllReadyH.nil)
        (go_simp; refine (pPut4 (n := sz) Hsz.out hE9 (by rw [List.length_append, List.length_append, Hh.out]; simp; omega)).mono ?_; rintro e wa ⟨v, rfl, rfl, hEa⟩)
        refine hK.out _ _ ⟨atA hEa 1 rfl Try.isAgg56 Try.sizeOf56 H32.out K2.out, atV hEa 1 rfl (by simp [go_sem]) K34.out, atV hEa 1 rfl (by simp [go_sem]) K35.out⟩ (fun hS => ?_)
        clear hK K
        try simp only [Act.put, List.setIfInBounds_toArray, List.set_cons_zero, List.set_cons_succ]
        refine wpAnyH_done (by kernel_rfl) ?_ _
        go_wp2
        go_roundw
        case rel =>
          refine ⟨k + 1, hlt, by simp, ?_⟩
          have hF := hEa.erase 1
          rw [← Hpr2.out, ← Hpre.out] at hF
          rw [Hs.out, Hkb.out]
          simpa using hF
        case measure => simp [intOf]; omega
      | false =>
        go_wp2_with (first
          | go_skip
          | ((with_reducible (show Go.wpList _ _ _ (Go.Oper.mk _ (.load 59 _) _ _ _ _ :: _) _ _)); refine wpl_loadC rfl rfl rfl Try.isAgg59 Try.sizeOf59 xs H36.out Hcx.out ?_)
          | ((with_reducible (show Go.wpList _ _ _ (Go.Oper.mk _ (.alloc _) _ _ _ _ :: _) _ _)); refine wpl_allocN hE rfl rfl (n := 36) (by kernel_rfl) ?_; clear hE; intro b6 cs w1 hq hE6)
          | ((with_reducible (show Go.wpList _ _ _ (Go.Oper.mk _ (.store _ _ _) _ _ _ _ :: _) _ _)); refine wpl_storeN hE6 0 rfl rfl rfl rfl rfl Try.sizeOf59 H36.out Hone.out hq ?_; clear hE6; intro w1 hE7; simp only [List.set_cons_zero] at hE7)
          | ((with_reducible (show Go.wpList _ _ _ (Go.Oper.mk _ (.load 4 _) _ _ _ _ :: _) _ _)); refine wpl_load1 hE7 0 rfl rfl rfl rfl (by simp [go_sem]) K1.out ?_)
          | ((with_reducible (show Go.wpList _ _ _ (Go.Oper.mk _ (.load _ _) _ _ _ _ :: _) _ _)); refine wpl_load1 hE7 2 rfl rfl rfl rfl (by simp [go_sem]) rfl ?_))
        refine wp_region_held_drew (S := (fun w' => (Instr.loadAt 9 (.pointer (some ⟨b6, 0, none⟩))).run Try.prog w' = .ok (.string ⟨nm.toArray⟩) w')) (by kernel_rfl) (atV hE7.drew 0 rfl (by simp [go_sem]) K0.out) (fun hS => ?_)
        refine wpAnyH_take (i := 0) (oi := { dst := some 40, op := Go.Op.move (Go.Operand.tmp 4), type := 88, pos := "chunk.go:112", after := #[], guard := none }) (v := ?_) rfl (by kernel_rfl) (by kernel_rfl) (by kernel_rfl) (fun _ _ _ h => h) (Or.inl ⟨by rfl, ?_⟩) hS ?_
        rotate_left
        · (intro w hSw; (try dsimp only at hSw); go_simp; (try with_reducible rfl))
        try simp only [Act.put, List.setIfInBounds_toArray, List.set_cons_zero, List.set_cons_succ]
        refine wpAnyH_take (i := 1) (oi := { dst := some 41, op := Go.Op.move (Go.Operand.tmp 7), type := 91, pos := "chunk.go:112", after := #[], guard := none }) (v := ?_) rfl (by kernel_rfl) (by kernel_rfl) (by kernel_rfl) (fun _ _ _ h => h) (Or.inl ⟨by rfl, ?_⟩) hS ?_
        rotate_left
        · (intro w hSw; (try dsimp only at hSw); go_simp; (try with_reducible rfl))
        try simp only [Act.put, List.setIfInBounds_toArray, List.set_cons_zero, List.set_cons_succ]
        refine wpAnyH_take (i := 3) (oi := { dst := some 43, op := Go.Op.fieldAddr 59 (Go.Operand.tmp 6) 0, type := 0, pos := "chunk.go:112", after := #[], guard := none }) (v := ?_) rfl (by kernel_rfl) (by kernel_rfl) (by kernel_rfl) (fun _ _ _ h => h) (Or.inl ⟨by rfl, ?_⟩) hS ?_
        rotate_left
        · (intro w hSw; (try dsimp only at hSw); go_simp; (try with_reducible rfl))
        try simp only [Act.put, List.setIfInBounds_toArray, List.set_cons_zero, List.set_cons_succ]
        refine wpAnyH_take (i := 4) (oi := { dst := some 44, op := Go.Op.load 9 (Go.Operand.tmp 43), type := 9, pos := "chunk.go:112", after := #[{ on := 3, ground := Go.Ground.data }], guard := none }) (v := ?_) rfl (by kernel_rfl) (by kernel_rfl) (by kernel_rfl) (fun _ _ _ h => h) (Or.inl ⟨by rfl, ?_⟩) hS ?_
        rotate_left
        · (intro w hSw; (try dsimp only at hSw); go_simp; (try with_reducible rfl))
        try simp only [Act.put, List.setIfInBounds_toArray, List.set_cons_zero, List.set_cons_succ]
        refine wpAnyH_ready (rs := [2]) (by kernel_rfl) (by simp) ?_
        refine (AllReadyH.cons (o := { dst := some 42, op := Go.Op.call { callee := Go.Callee.value (Go.Operand.func 42), args := #[Go.Operand.tmp 40, Go.Operand.const (Go.Value.int Go.IntKind.i64 1), Go.Operand.tmp 41], argTypes := #[88, 3, 91] }, type := 88, pos := "chunk.go:112", after := #[{ on := 0, ground := Go.Ground.data }, { on := 1, ground := Go.Ground.data }], guard := none }) rfl (fun K hK => ?_) AllReadyH.nil)
        (go_simp; refine (pPut1 (n := 0) (by omega) (hE7.drew.front 1 rfl) (by omega)).mono ?_; rintro e wb ⟨v, rfl, rfl, hEb⟩)
        refine hK.out _ _ (atV hEb 1 rfl (by simp [go_sem]) K0.out) (fun hS => ?_)
        clear hK K
        try simp only [Act.put, List.setIfInBounds_toArray, List.set_cons_zero, List.set_cons_succ]
        refine wpAnyH_ready (rs := [5]) (by kernel_rfl) (by simp) ?_
        refine (AllReadyH.cons (o := { dst := some 45, op := Go.Op.call { callee := Go.Callee.value (Go.Operand.func 67), args := #[Go.Operand.tmp 42, Go.Operand.tmp 44], argTypes := #[88, 9] }, type := 88, pos := "chunk.go:112", after := #[{ on := 2, ground := Go.Ground.data }, { on := 4, ground := Go.Ground.data }, { on := 2, ground := Go.Ground.chain }], guard := none }) rfl (fun K hK => ?_) AllReadyH.nil)
        (go_simp; refine (Name_ok p nm (by have := Hnl.out; omega) hEb (by simp; omega)).mono ?_; rintro e wc ⟨v, rfl, rfl, hEc⟩)
        refine hK.out _ _ (atV hEc 1 rfl (by simp [go_sem]) K0.out) (fun hS => ?_)
        clear hK K
        try simp only [Act.put, List.setIfInBounds_toArray, List.set_cons_zero, List.set_cons_succ]
        refine wpAnyH_done (by kernel_rfl) ?_ _
        have hnl := Hnl.out
        replace hE7 := hEc.front 1 rfl
        simp only [List.eraseIdx_cons_succ, List.eraseIdx_cons_zero] at hE7
        clear hEb hEc
        generalize hpr2 : pre ++ [UInt8.ofNat 0] ++ UInt8.ofNat nm.length :: nm = pr2 at hE7
        have hpl2 : pr2.length ≤ 1040 := by rw [← hpr2]; simp; omega
        have Hpr2 := SL.hid hpr2
        clear hpr2
        go_wp2
        refine wp_region_held_drew (S := (fun w' => (Instr.loadAt 56 (.pointer (some ⟨b6, 2, none⟩))).run Try.prog w' = .ok (.agg (bvals hs).toArray) w' ∧ (Instr.loadAt 5 (.pointer (some ⟨b6, 34, none⟩))).run Try.prog w' = .ok (.int .u8 g) w' ∧ (Instr.loadAt 57 (.pointer (some ⟨b6, 35, none⟩))).run Try.prog w' = .ok (.int .u32 sz) w')) (by kernel_rfl) ⟨atA hE7.drew 0 rfl Try.isAgg56 Try.sizeOf56 H32.out K2.out, atV hE7.drew 0 rfl (by simp [go_sem]) K34.out, atV hE7.drew 0 rfl (by simp [go_sem]) K35.out⟩ (fun hS => ?_)
        refine wpAnyH_take (i := 0) (oi := { dst := some 46, op := Go.Op.move (Go.Operand.tmp 4), type := 88, pos := "chunk.go:114", after := #[], guard := none }) (v := ?_) rfl (by kernel_rfl) (by kernel_rfl) (by kernel_rfl) (fun _ _ _ h => h) (Or.inl ⟨by rfl, ?_⟩) hS ?_
        rotate_left
        · (intro w hSw; (try dsimp only at hSw); go_simp; (try with_reducible rfl))
        try simp only [Act.put, List.setIfInBounds_toArray, List.set_cons_zero, List.set_cons_succ]
        refine wpAnyH_take (i := 1) (oi := { dst := some 47, op := Go.Op.fieldAddr 59 (Go.Operand.tmp 6) 2, type := 0, pos := "chunk.go:114", after := #[], guard := none }) (v := ?_) rfl (by kernel_rfl) (by kernel_rfl) (by kernel_rfl) (fun _ _ _ h => h) (Or.inl ⟨by rfl, ?_⟩) hS ?_
        rotate_left
        · (intro w hSw; (try dsimp only at hSw); go_simp; (try with_reducible rfl))
        try simp only [Act.put, List.setIfInBounds_toArray, List.set_cons_zero, List.set_cons_succ]
        refine wpAnyH_take (i := 2) (oi := { dst := some 48, op := Go.Op.load 56 (Go.Operand.tmp 47), type := 56, pos := "chunk.go:114", after := #[{ on := 1, ground := Go.Ground.data }], guard := none }) (v := ?_) rfl (by kernel_rfl) (by kernel_rfl) (by kernel_rfl) (fun _ _ _ h => h) (Or.inl ⟨by rfl, ?_⟩) hS ?_
        rotate_left
        · (intro w hSw; (try dsimp only at hSw); go_simp; (try with_reducible rfl))
        try simp only [Act.put, List.setIfInBounds_toArray, List.set_cons_zero, List.set_cons_succ]
        refine wpAnyH_take (i := 4) (oi := { dst := some 50, op := Go.Op.fieldAddr 59 (Go.Operand.tmp 6) 3, type := 0, pos := "chunk.go:114", after := #[], guard := none }) (v := ?_) rfl (by kernel_rfl) (by kernel_rfl) (by kernel_rfl) (fun _ _ _ h => h) (Or.inl ⟨by rfl, ?_⟩) hS ?_
        rotate_left
        · (intro w hSw; (try dsimp only at hSw); go_simp; (try with_reducible rfl))
        try simp only [Act.put, List.setIfInBounds_toArray, List.set_cons_zero, List.set_cons_succ]
        refine wpAnyH_take (i := 5) (oi := { dst := some 51, op := Go.Op.load 5 (Go.Operand.tmp 50), type := 5, pos := "chunk.go:114", after := #[{ on := 4, ground := Go.Ground.data }], guard := none }) (v := ?_) rfl (by kernel_rfl) (by kernel_rfl) (by kernel_rfl) (fun _ _ _ h => h) (Or.inl ⟨by rfl, ?_⟩) hS ?_
        rotate_left
        · (intro w hSw; (try dsimp only at hSw); go_simp; (try with_reducible rfl))
        try simp only [Act.put, List.setIfInBounds_toArray, List.set_cons_zero, List.set_cons_succ]
        refine wpAnyH_take (i := 6) (oi := { dst := some 52, op := Go.Op.convert 5 91 (Go.Operand.tmp 51), type := 91, pos := "chunk.go:114", after := #[{ on := 5, ground := Go.Ground.data }], guard := none }) (v := ?_) rfl (by kernel_rfl) (by kernel_rfl) (by kernel_rfl) (fun _ _ _ h => h) (Or.inl ⟨by rfl, ?_⟩) hS ?_
        rotate_left
        · (intro w hSw; (try dsimp only at hSw); go_simp; (try with_reducible rfl))
        try simp only [Act.put, List.setIfInBounds_toArray, List.set_cons_zero, List.set_cons_succ]
        refine wpAnyH_take (i := 8) (oi := { dst := some 54, op := Go.Op.fieldAddr 59 (Go.Operand.tmp 6) 4, type := 0, pos := "chunk.go:114", after := #[], guard := none }) (v := ?_) rfl (by kernel_rfl) (by kernel_rfl) (by kernel_rfl) (fun _ _ _ h => h) (Or.inl ⟨by rfl, ?_⟩) hS ?_
        rotate_left
        · (intro w hSw; (try dsimp only at hSw); go_simp; (try with_reducible rfl))
        try simp only [Act.put, List.setIfInBounds_toArray, List.set_cons_zero, List.set_cons_succ]
        refine wpAnyH_take (i := 9) (oi := { dst := some 55, op := Go.Op.load 57 (Go.Operand.tmp 54), type := 57, pos := "chunk.go:114", after := #[{ on := 8, ground := Go.Ground.data }], guard := none }) (v := ?_) rfl (by kernel_rfl) (by kernel_rfl) (by kernel_rfl) (fun _ _ _ h => h) (Or.inl ⟨by rfl, ?_⟩) hS ?_
        rotate_left
        · (intro w hSw; (try dsimp only at hSw); go_simp; (try with_reducible rfl))
        try simp only [Act.put, List.setIfInBounds_toArray, List.set_cons_zero, List.set_cons_succ]
        refine wpAnyH_take (i := 10) (oi := { dst := some 56, op := Go.Op.convert 57 91 (Go.Operand.tmp 55), type := 91, pos := "chunk.go:114", after := #[{ on := 9, ground := Go.Ground.data }], guard := none }) (v := ?_) rfl (by kernel_rfl) (by kernel_rfl) (by kernel_rfl) (fun _ _ _ h => h) (Or.inl ⟨by rfl, ?_⟩) hS ?_
        rotate_left
        · (intro w hSw; (try dsimp only at hSw); go_simp; (try with_reducible rfl))
        try simp only [Act.put, List.setIfInBounds_toArray, List.set_cons_zero, List.set_cons_succ]
        refine wpAnyH_ready (rs := [3]) (by kernel_rfl) (by simp) ?_
        refine (AllReadyH.cons (o := { dst := some 49, op := Go.Op.call { callee := Go.Callee.value (Go.Operand.func 68), args := #[Go.Operand.tmp 46, Go.Operand.tmp 48], argTypes := #[88, 56] }, type := 88, pos := "chunk.go:114", after := #[{ on := 0, ground := Go.Ground.data }, { on := 2, ground := Go.Ground.data }], guard := none }) rfl (fun K hK => ?_) AllReadyH.nil)
        (go_simp; refine (Hash_any p hs Hh.out (hE7.drew.front 1 rfl) (by omega)).mono ?_; rintro e w8 ⟨v, rfl, rfl, hE8⟩)
        refine hK.out _ _ ⟨atA hE8 1 rfl Try.isAgg56 Try.sizeOf56 H32.out K2.out, atV hE8 1 rfl (by simp [go_sem]) K34.out, atV hE8 1 rfl (by simp [go_sem]) K35.out⟩ (fun hS => ?_)
        clear hK K
        try simp only [Act.put, List.setIfInBounds_toArray, List.set_cons_zero, List.set_cons_succ]
        refine wpAnyH_ready (rs := [7]) (by kernel_rfl) (by simp) ?_
        refine (AllReadyH.cons (o := { dst := some 53, op := Go.Op.call { callee := Go.Callee.value (Go.Operand.func 42), args := #[Go.Operand.tmp 49, Go.Operand.const (Go.Value.int Go.IntKind.i64 1), Go.Operand.tmp 52], argTypes := #[88, 3, 91] }, type := 88, pos := "chunk.go:114", after := #[{ on := 3, ground := Go.Ground.data }, { on := 6, ground := Go.Ground.data }, { on := 3, ground := Go.Ground.chain }], guard := none }) rfl (fun K hK => ?_) AllReadyH.nil)
        (go_simp; refine (pPut1 (n := g) Hbg.out hE8 (by rw [List.length_append, Hh.out]; omega)).mono ?_; rintro e w9 ⟨v, rfl, rfl, hE9⟩)
        refine hK.out _ _ ⟨atA hE9 1 rfl Try.isAgg56 Try.sizeOf56 H32.out K2.out, atV hE9 1 rfl (by simp [go_sem]) K34.out, atV hE9 1 rfl (by simp [go_sem]) K35.out⟩ (fun hS => ?_)
        clear hK K
        try simp only [Act.put, List.setIfInBounds_toArray, List.set_cons_zero, List.set_cons_succ]
        refine wpAnyH_ready (rs := [11]) (by kernel_rfl) (by simp) ?_
        refine (AllReadyH.cons (o := { dst := some 57, op := Go.Op.call { callee := Go.Callee.value (Go.Operand.func 42), args := #[Go.Operand.tmp 53, Go.Operand.const (Go.Value.int Go.IntKind.i64 4), Go.Operand.tmp 56], argTypes := #[88, 3, 91] }, type := 88, pos := "chunk.go:114", after := #[{ on := 7, ground := Go.Ground.data }, { on := 10, ground := Go.Ground.data }, { on := 7, ground := Go.Ground.chain }], guard := none }) rfl (fun K hK => ?_) AllReadyH.nil)
        (go_simp; refine (pPut4 (n := sz) Hsz.out hE9 (by rw [List.length_append, List.length_append, Hh.out]; simp; omega)).mono ?_; rintro e wa ⟨v, rfl, rfl, hEa⟩)
        refine hK.out _ _ ⟨atA hEa 1 rfl Try.isAgg56 Try.sizeOf56 H32.out K2.out, atV hEa 1 rfl (by simp [go_sem]) K34.out, atV hEa 1 rfl (by simp [go_sem]) K35.out⟩ (fun hS => ?_)
        clear hK K
        try simp only [Act.put, List.setIfInBounds_toArray, List.set_cons_zero, List.set_cons_succ]
        refine wpAnyH_done (by kernel_rfl) ?_ _
        go_wp2
        go_roundw
        case rel =>
          refine ⟨k + 1, hlt, by simp, ?_⟩
          have hF := hEa.erase 1
          rw [← Hpr2.out, ← Hpre.out] at hF
          rw [Hs.out, Hkb.out]
          simpa using hF
        case measure => simp [intOf]; omega
    · have E2 : ks.take k = ks := by rw [show k = ks.length by omega, List.take_length]
      rw [E2] at hE
      have hlen := kidsB_len true 16 ks Hg.out (fun k hk _ => mayC_dir Hm.out rfl k hk)
      clear E2
      go_wp2_with (first
        | go_skip
        | (go_at_call 44; have H := Bytes_ok hE (by simp; omega); refine H.mono ?_; clear H hE; rintro e w6 ⟨v, rfl, ao2, c2, rfl, hE6⟩))
      go_ret2
      exact ⟨_, rfl, ao2, c2, rfl, (hE6.erase 1).erase 1⟩
end Go.Proofs.Ytohdljcpaogokaa
