/-
  The head of bytes, as the document takes it. Printed by gen_rc4.py.
-/
import Derived.Test.YtdpfigkjkjjedaaDoorRecordsF4
import Derived.Laws.StructEq
import Derived.Laws.Tables
import Derived.Deep.RegionLaw
namespace Go.Proofs.YtdpfigkjkjjedaaDoor
open Go.RowKit Go.SL

def resHD (b : List UInt8) : Hd := if hdOk b then hdS b else hdZ
def resHDE (b : List UInt8) : Int := if hdOk b then 0 else 3
theorem resH_same (b : List UInt8) : resH b = resHD b ∧ resHE b = resHDE b := by
  obtain ⟨h1, h2⟩ := hr_hd b
  unfold resH resHD resHE resHDE
  rw [← h1]
  cases h : hrOk b with
  | true => exact ⟨h2 h, rfl⟩
  | false => exact ⟨rfl, rfl⟩

set_option maxRecDepth 100000 in
theorem rhTake_short {b : List UInt8} (hb : b.length ≤ 1000000) (h : (b.length == 512) = false) {l : List HProp} {w : World} (hE : Ent l w) :
    Calls Tryd.prog 25 #[.string ⟨b.toArray⟩] w (Ret fun v w' => v = .tuple #[hdV (resHD b), .int .i64 (resHDE b)] ∧ Ent l w') := by
  have Hf := SL.hid (show hdOk b = false by unfold hdOk; rw [h]; rfl)
  have hd : ((b.length : Int) != 512) = true := by simp at h ⊢; omega
  clear h
  go_enter Tryd.func25, Tryd.ntmps25
  go_wp2_with (first
    | go_skip
    | ((with_reducible (show Go.wpList _ _ _ (Go.Oper.mk _ (.alloc _) _ _ _ _ :: _) _ _)); refine wpl_alloc hE rfl rfl (by simp [go_sem]; rfl) ?_; clear hE; intro b w hE; simp only [Act.eval, Act.put, List.setIfInBounds_toArray, List.set_cons_zero, List.set_cons_succ, getD_lit, List.getD_cons_succ, List.getD_cons_zero, Value.cells] at hE)
    | ((with_reducible (show Go.wpList _ _ _ (Go.Oper.mk _ (.store 53 _ _) _ _ _ _ :: _) _ _)); (first | (refine wpl_storeW hE 0 rfl rfl rfl (xs := [.int .i64 0, .int .i64 0, .int .u32 0]) rfl rfl Tryd.sizeOf53 rfl (by simp [Value.oneCell']) rfl ?_) | (refine wpl_storeW hE 1 rfl rfl rfl (xs := [.int .i64 0, .int .i64 0, .int .u32 0]) rfl rfl Tryd.sizeOf53 rfl (by simp [Value.oneCell']) rfl ?_) | (refine wpl_storeW hE 2 rfl rfl rfl (xs := [.int .i64 0, .int .i64 0, .int .u32 0]) rfl rfl Tryd.sizeOf53 rfl (by simp [Value.oneCell']) rfl ?_) | (refine wpl_storeW hE 3 rfl rfl rfl (xs := [.int .i64 0, .int .i64 0, .int .u32 0]) rfl rfl Tryd.sizeOf53 rfl (by simp [Value.oneCell']) rfl ?_) | (refine wpl_storeW hE 4 rfl rfl rfl (xs := [.int .i64 0, .int .i64 0, .int .u32 0]) rfl rfl Tryd.sizeOf53 rfl (by simp [Value.oneCell']) rfl ?_) | (refine wpl_storeW hE 5 rfl rfl rfl (xs := [.int .i64 0, .int .i64 0, .int .u32 0]) rfl rfl Tryd.sizeOf53 rfl (by simp [Value.oneCell']) rfl ?_) | (refine wpl_storeW hE 6 rfl rfl rfl (xs := [.int .i64 0, .int .i64 0, .int .u32 0]) rfl rfl Tryd.sizeOf53 rfl (by simp [Value.oneCell']) rfl ?_) | (refine wpl_storeW hE 7 rfl rfl rfl (xs := [.int .i64 0, .int .i64 0, .int .u32 0]) rfl rfl Tryd.sizeOf53 rfl (by simp [Value.oneCell']) rfl ?_)); clear hE; intro w hE; simp only [List.set_cons_zero, List.set_cons_succ] at hE))
  refine bodyPost_ret (results_cell2 rfl hE 0 rfl rfl Tryd.isAgg53 Tryd.sizeOf53 rfl rfl) rfl ?_
  unfold resHD resHDE
  rw [Hf.out]
  exact ⟨_, rfl, rfl, hE.tail⟩

set_option maxRecDepth 100000 in
set_option maxHeartbeats 4000000 in
theorem rhTake_512 {b : List UInt8} (h : b.length = 512) {l : List HProp} {w : World} (hE : Ent l w) :
    Calls Tryd.prog 25 #[.string ⟨b.toArray⟩] w (Ret fun v w' => v = .tuple #[hdV (resHD b), .int .i64 (resHDE b)] ∧ Ent l w') := by
  have hs1 : ∀ w, (Instr.sliceAt 9 (.string ⟨b.toArray⟩) (some (.int .i64 4)) (some (.int .i64 6)) none).run Tryd.prog w = .ok (.string ⟨((b.drop 4).take 2).toArray⟩) w := fun w => run_slice_s (P := Tryd.prog) Tryd.underlying9 (bs := b) (a := 4) (k := 6) (by omega) (by omega) w
  have hs2 : ∀ w, (Instr.sliceAt 9 (.string ⟨b.toArray⟩) (some (.int .i64 6)) (some (.int .i64 8)) none).run Tryd.prog w = .ok (.string ⟨((b.drop 6).take 2).toArray⟩) w := fun w => run_slice_s (P := Tryd.prog) Tryd.underlying9 (bs := b) (a := 6) (k := 8) (by omega) (by omega) w
  have hs3 : ∀ w, (Instr.sliceAt 9 (.string ⟨b.toArray⟩) (some (.int .i64 8)) (some (.int .i64 12)) none).run Tryd.prog w = .ok (.string ⟨((b.drop 8).take 4).toArray⟩) w := fun w => run_slice_s (P := Tryd.prog) Tryd.underlying9 (bs := b) (a := 8) (k := 12) (by omega) (by omega) w
  have k1 : ((b.drop 4).take 2).length ≤ 1099511627776 := by rw [List.length_take]; omega
  have k2 : ((b.drop 6).take 2).length ≤ 1099511627776 := by rw [List.length_take]; omega
  have k3 : ((b.drop 8).take 4).length ≤ 1099511627776 := by rw [List.length_take]; omega
  obtain ⟨b1, b2, b3⟩ := hdS_lt b
  replace b1 : beVal ((b.drop 4).take 2) < 65536 := b1
  replace b2 : beVal ((b.drop 6).take 2) < 65536 := b2
  replace b3 : beVal ((b.drop 8).take 4) < 4294967296 := b3
  have Hok := SL.hid (show hdOk b = (decide (beVal ((b.drop 6).take 2) ≤ 2048) && (hdP (beVal ((b.drop 4).take 2)) (beVal ((b.drop 6).take 2)) (beVal ((b.drop 8).take 4)) == b)) by unfold hdOk; rw [show (b.length == 512) = true by simp [h], Bool.true_and]; rfl)
  have Hres := SL.hid (show resHD b = if hdOk b then hdS b else hdZ from rfl)
  have HresE := SL.hid (show resHDE b = if hdOk b then 0 else 3 from rfl)
  have He := SL.hid (show hdS b = ⟨beVal ((b.drop 4).take 2), beVal ((b.drop 6).take 2), beVal ((b.drop 8).take 4)⟩ from rfl)
  have hbl : (b.length : Int) = 512 := by omega
  generalize (b.drop 4).take 2 = c1 at *
  generalize (b.drop 6).take 2 = c2 at *
  generalize (b.drop 8).take 4 = c3 at *
  have hV1 : ∀ w, Calls Tryd.prog 57 #[.string ⟨c1.toArray⟩] w (fun e w' => e = .returned (.int .u64 (beVal c1)) ∧ w = w') := fun w => Value_any c1 w k1
  have hV2 : ∀ w, Calls Tryd.prog 57 #[.string ⟨c2.toArray⟩] w (fun e w' => e = .returned (.int .u64 (beVal c2)) ∧ w = w') := fun w => Value_any c2 w k2
  have hV3 : ∀ w, Calls Tryd.prog 57 #[.string ⟨c3.toArray⟩] w (fun e w' => e = .returned (.int .u64 (beVal c3)) ∧ w = w') := fun w => Value_any c3 w k3
  obtain ⟨bx, hbx⟩ : ∃ bx, beVal c1 = bx := ⟨_, rfl⟩
  obtain ⟨us, hus⟩ : ∃ us, beVal c2 = us := ⟨_, rfl⟩
  obtain ⟨su, hsu⟩ : ∃ su, beVal c3 = su := ⟨_, rfl⟩
  rw [hbx] at hV1 b1 Hok He
  rw [hus] at hV2 b2 Hok He
  rw [hsu] at hV3 b3 Hok He
  have hw1 : IntKind.i64.wrap (bx : Int) = (bx : Int) := wrap_id (by omega)
  have hw2 : IntKind.i64.wrap (us : Int) = (us : Int) := wrap_id (by omega)
  have hw3 : IntKind.u32.wrap (su : Int) = (su : Int) := by
    simp only [IntKind.wrap, IntKind.bits, IntKind.signed]
    simp
    omega
  have Hb1 := SL.hid b1
  have Hb2 := SL.hid b2
  have Hb3 := SL.hid b3
  clear b1 b2 b3 hbx hus hsu k1 k2 k3
  generalize hdOk b = ok at *
  cases hu : decide ((2048 : Int) < (us : Int)) with
  | false =>
    have hlen : us ≤ 2048 := by have := of_decide_eq_false hu; omega
    cases hq : (hdP bx us su == b) with
    | true =>
      have Hf := SL.hid (show ok = true by rw [Hok.out, hq]; simp [hlen])
      clear hlen
      go_enter Tryd.func25, Tryd.ntmps25
      go_wp2_with (first
        | go_skip
        | ((with_reducible (show Go.wpList _ _ _ (Go.Oper.mk _ (.alloc _) _ _ _ _ :: _) _ _)); refine wpl_alloc hE rfl rfl (by simp [go_sem]; rfl) ?_; clear hE; intro b2_ w hE; simp only [Act.eval, Act.put, List.setIfInBounds_toArray, List.set_cons_zero, List.set_cons_succ, getD_lit, List.getD_cons_succ, List.getD_cons_zero, Value.cells] at hE))
      refine wp_region_held_drew (S := fun _ => True) (by kernel_rfl) trivial (fun hS => ?_)
      refine takeW 0 ⟨some 9, .move (.tmp 0), 9, "ref.go:67", #[], none⟩ ?_ (.inl ⟨by rfl, ?_⟩) hS ?_
      rotate_left
      · (intro w hSw; (try dsimp only at hSw); go_simp; (try with_reducible rfl))
      try simp only [Act.put, sb, s0, sz]
      refine takeW 1 ⟨some 10, .slice 9 (.tmp 9) (some (.const (.int .i64 4))) (some (.const (.int .i64 6))) none, 9, "ref.go:67", #[⟨0, .data⟩], none⟩ ?_ (.inl ⟨by rfl, ?_⟩) hS ?_
      rotate_left
      · (intro w hSw; (try dsimp only at hSw); go_simp; (try with_reducible rfl))
      try simp only [Act.put, sb, s0, sz]
      refine takeW 4 ⟨some 13, .move (.tmp 0), 9, "ref.go:67", #[], none⟩ ?_ (.inl ⟨by rfl, ?_⟩) hS ?_
      rotate_left
      · (intro w hSw; (try dsimp only at hSw); go_simp; (try with_reducible rfl))
      try simp only [Act.put, sb, s0, sz]
      refine takeW 5 ⟨some 14, .slice 9 (.tmp 13) (some (.const (.int .i64 6))) (some (.const (.int .i64 8))) none, 9, "ref.go:67", #[⟨4, .data⟩], none⟩ ?_ (.inl ⟨by rfl, ?_⟩) hS ?_
      rotate_left
      · (intro w hSw; (try dsimp only at hSw); go_simp; (try with_reducible rfl))
      try simp only [Act.put, sb, s0, sz]
      refine takeW 8 ⟨some 17, .move (.tmp 0), 9, "ref.go:67", #[], none⟩ ?_ (.inl ⟨by rfl, ?_⟩) hS ?_
      rotate_left
      · (intro w hSw; (try dsimp only at hSw); go_simp; (try with_reducible rfl))
      try simp only [Act.put, sb, s0, sz]
      refine takeW 9 ⟨some 18, .slice 9 (.tmp 17) (some (.const (.int .i64 8))) (some (.const (.int .i64 12))) none, 9, "ref.go:67", #[⟨8, .data⟩], none⟩ ?_ (.inl ⟨by rfl, ?_⟩) hS ?_
      rotate_left
      · (intro w hSw; (try dsimp only at hSw); go_simp; (try with_reducible rfl))
      try simp only [Act.put, sb, s0, sz]
      refine wpAnyH_ready (rs := [2, 13]) (by kernel_rfl) (by simp) ?_
      refine (AllReadyH.cons (o := { dst := some 11, op := Go.Op.call { callee := Go.Callee.value (Go.Operand.func 57), args := #[Go.Operand.tmp 10], argTypes := #[9] }, type := 22, pos := "ref.go:67", after := #[{ on := 1, ground := Go.Ground.data }], guard := none }) rfl (fun K hK => ?_) (AllReadyH.cons (o := { dst := some 4, op := Go.Op.alloc 53, type := 0, pos := "ref.go:67", after := #[], guard := none }) rfl (fun K hK => ?_) AllReadyH.nil))
      focus
        (go_simp; refine (hV1 _).mono ?_; rintro e w2 ⟨rfl, rfl⟩)
        refine hK.out _ _ trivial (fun hS => ?_)
        clear hK K
        try simp only [Act.put, sb, s0, sz]
        refine takeW 3 ⟨some 12, .convert 22 3 (.tmp 11), 3, "ref.go:67", #[⟨2, .data⟩], none⟩ ?_ (.inl ⟨by rfl, ?_⟩) hS ?_
        rotate_left
        · (intro w hSw; (try dsimp only at hSw); go_simp; (try with_reducible rfl))
        try simp only [Act.put, sb, s0, sz]
        refine wpAnyH_ready (rs := [6, 13]) (by kernel_rfl) (by simp) ?_
        refine (AllReadyH.cons (o := { dst := some 15, op := Go.Op.call { callee := Go.Callee.value (Go.Operand.func 57), args := #[Go.Operand.tmp 14], argTypes := #[9] }, type := 22, pos := "ref.go:67", after := #[{ on := 5, ground := Go.Ground.data }, { on := 2, ground := Go.Ground.chain }], guard := none }) rfl (fun K hK => ?_) (AllReadyH.cons (o := { dst := some 4, op := Go.Op.alloc 53, type := 0, pos := "ref.go:67", after := #[], guard := none }) rfl (fun K hK => ?_) AllReadyH.nil))
        focus
          (go_simp; refine (hV2 _).mono ?_; rintro e w2 ⟨rfl, rfl⟩)
          refine hK.out _ _ trivial (fun hS => ?_)
          clear hK K
          try simp only [Act.put, sb, s0, sz]
          refine takeW 7 ⟨some 16, .convert 22 3 (.tmp 15), 3, "ref.go:67", #[⟨6, .data⟩], none⟩ ?_ (.inl ⟨by rfl, ?_⟩) hS ?_
          rotate_left
          · (intro w hSw; (try dsimp only at hSw); go_simp; (try with_reducible rfl))
          try simp only [Act.put, sb, s0, sz]
          refine wpAnyH_ready (rs := [10, 13]) (by kernel_rfl) (by simp) ?_
          refine (AllReadyH.cons (o := { dst := some 19, op := Go.Op.call { callee := Go.Callee.value (Go.Operand.func 57), args := #[Go.Operand.tmp 18], argTypes := #[9] }, type := 22, pos := "ref.go:67", after := #[{ on := 9, ground := Go.Ground.data }, { on := 6, ground := Go.Ground.chain }], guard := none }) rfl (fun K hK => ?_) (AllReadyH.cons (o := { dst := some 4, op := Go.Op.alloc 53, type := 0, pos := "ref.go:67", after := #[], guard := none }) rfl (fun K hK => ?_) AllReadyH.nil))
          focus
            (go_simp; refine (hV3 _).mono ?_; rintro e w2 ⟨rfl, rfl⟩)
            refine hK.out _ _ trivial (fun hS => ?_)
            clear hK K
            try simp only [Act.put, sb, s0, sz]
            refine takeW 11 ⟨some 20, .convert 22 47 (.tmp 19), 47, "ref.go:67", #[⟨10, .data⟩], none⟩ ?_ (.inl ⟨by rfl, ?_⟩) hS ?_
            rotate_left
            · (intro w hSw; (try dsimp only at hSw); go_simp; (try with_reducible rfl))
            try simp only [Act.put, sb, s0, sz]
            refine takeW 12 ⟨some 21, .build 53 #[(0, .tmp 12), (1, .tmp 16), (2, .tmp 20)], 53, "ref.go:67", #[⟨3, .data⟩, ⟨7, .data⟩, ⟨11, .data⟩], none⟩ ?_ (.inl ⟨by rfl, ?_⟩) hS ?_
            rotate_left
            · (intro w hSw; (try dsimp only at hSw); go_simp; (try with_reducible rfl))
            try simp only [Act.put, sb, s0, sz]
            refine wpAnyH_ready (rs := [13]) (by kernel_rfl) (by simp) ?_
            refine (AllReadyH.cons (o := { dst := some 4, op := Go.Op.alloc 53, type := 0, pos := "ref.go:67", after := #[], guard := none }) rfl (fun K hK => ?_) AllReadyH.nil)
            (go_simp; have hEa := hE.drew.alloc (.cells #[.int .i64 0, .int .i64 0, .int .u32 0] 53))
            refine hK.out _ _ trivial (fun hS => ?_)
            clear hK K
            try simp only [Act.put, sb, s0, sz]
            refine wpAnyH_ready (rs := [14]) (by kernel_rfl) (by simp) ?_
            refine (AllReadyH.cons (o := { dst := none, op := Go.Op.store 53 (Go.Operand.tmp 4) (Go.Operand.tmp 21), type := 0, pos := "ref.go:67", after := #[{ on := 13, ground := Go.Ground.data }, { on := 12, ground := Go.Ground.data }, { on := 10, ground := Go.Ground.chain }, { on := 0, ground := Go.Ground.phase }, { on := 1, ground := Go.Ground.phase }, { on := 2, ground := Go.Ground.phase }, { on := 3, ground := Go.Ground.phase }, { on := 4, ground := Go.Ground.phase }, { on := 5, ground := Go.Ground.phase }, { on := 6, ground := Go.Ground.phase }, { on := 7, ground := Go.Ground.phase }, { on := 8, ground := Go.Ground.phase }, { on := 9, ground := Go.Ground.phase }, { on := 10, ground := Go.Ground.phase }, { on := 11, ground := Go.Ground.phase }, { on := 12, ground := Go.Ground.phase }, { on := 13, ground := Go.Ground.phase }], guard := none }) rfl (fun K hK => ?_) AllReadyH.nil)
            (refine step_storeW hEa 0 rfl (by rfl) (by rfl) (by rfl) (xs := [.int .i64 bx, .int .i64 us, .int .u32 su]) (by rfl) Tryd.sizeOf53 rfl (by simp [Value.oneCell']) rfl ?_; intro w6 hEs; simp only [List.set_cons_zero, List.set_cons_succ] at hEs)
            refine hK.out _ _ trivial (fun hS => ?_)
            clear hK K
            try simp only [Act.put, sb, s0, sz]
            refine wpAnyH_done (by kernel_rfl) ?_ _
          rotate_right
          focus
            (go_simp; have hEa := hE.drew.alloc (.cells #[.int .i64 0, .int .i64 0, .int .u32 0] 53))
            refine hK.out _ _ trivial (fun hS => ?_)
            clear hK K
            try simp only [Act.put, sb, s0, sz]
            refine wpAnyH_ready (rs := [10]) (by kernel_rfl) (by simp) ?_
            refine (AllReadyH.cons (o := { dst := some 19, op := Go.Op.call { callee := Go.Callee.value (Go.Operand.func 57), args := #[Go.Operand.tmp 18], argTypes := #[9] }, type := 22, pos := "ref.go:67", after := #[{ on := 9, ground := Go.Ground.data }, { on := 6, ground := Go.Ground.chain }], guard := none }) rfl (fun K hK => ?_) AllReadyH.nil)
            (go_simp; refine (hV3 _).mono ?_; rintro e w2 ⟨rfl, rfl⟩)
            refine hK.out _ _ trivial (fun hS => ?_)
            clear hK K
            try simp only [Act.put, sb, s0, sz]
            refine takeW 11 ⟨some 20, .convert 22 47 (.tmp 19), 47, "ref.go:67", #[⟨10, .data⟩], none⟩ ?_ (.inl ⟨by rfl, ?_⟩) hS ?_
            rotate_left
            · (intro w hSw; (try dsimp only at hSw); go_simp; (try with_reducible rfl))
            try simp only [Act.put, sb, s0, sz]
            refine takeW 12 ⟨some 21, .build 53 #[(0, .tmp 12), (1, .tmp 16), (2, .tmp 20)], 53, "ref.go:67", #[⟨3, .data⟩, ⟨7, .data⟩, ⟨11, .data⟩], none⟩ ?_ (.inl ⟨by rfl, ?_⟩) hS ?_
            rotate_left
            · (intro w hSw; (try dsimp only at hSw); go_simp; (try with_reducible rfl))
            try simp only [Act.put, sb, s0, sz]
            refine wpAnyH_ready (rs := [14]) (by kernel_rfl) (by simp) ?_
            refine (AllReadyH.cons (o := { dst := none, op := Go.Op.store 53 (Go.Operand.tmp 4) (Go.Operand.tmp 21), type := 0, pos := "ref.go:67", after := #[{ on := 13, ground := Go.Ground.data }, { on := 12, ground := Go.Ground.data }, { on := 10, ground := Go.Ground.chain }, { on := 0, ground := Go.Ground.phase }, { on := 1, ground := Go.Ground.phase }, { on := 2, ground := Go.Ground.phase }, { on := 3, ground := Go.Ground.phase }, { on := 4, ground := Go.Ground.phase }, { on := 5, ground := Go.Ground.phase }, { on := 6, ground := Go.Ground.phase }, { on := 7, ground := Go.Ground.phase }, { on := 8, ground := Go.Ground.phase }, { on := 9, ground := Go.Ground.phase }, { on := 10, ground := Go.Ground.phase }, { on := 11, ground := Go.Ground.phase }, { on := 12, ground := Go.Ground.phase }, { on := 13, ground := Go.Ground.phase }], guard := none }) rfl (fun K hK => ?_) AllReadyH.nil)
            (refine step_storeW hEa 0 rfl (by rfl) (by rfl) (by rfl) (xs := [.int .i64 bx, .int .i64 us, .int .u32 su]) (by rfl) Tryd.sizeOf53 rfl (by simp [Value.oneCell']) rfl ?_; intro w6 hEs; simp only [List.set_cons_zero, List.set_cons_succ] at hEs)
            refine hK.out _ _ trivial (fun hS => ?_)
            clear hK K
            try simp only [Act.put, sb, s0, sz]
            refine wpAnyH_done (by kernel_rfl) ?_ _
        rotate_right
        focus
          (go_simp; have hEa := hE.drew.alloc (.cells #[.int .i64 0, .int .i64 0, .int .u32 0] 53))
          refine hK.out _ _ trivial (fun hS => ?_)
          clear hK K
          try simp only [Act.put, sb, s0, sz]
          refine wpAnyH_ready (rs := [6]) (by kernel_rfl) (by simp) ?_
          refine (AllReadyH.cons (o := { dst := some 15, op := Go.Op.call { callee := Go.Callee.value (Go.Operand.func 57), args := #[Go.Operand.tmp 14], argTypes := #[9] }, type := 22, pos := "ref.go:67", after := #[{ on := 5, ground := Go.Ground.data }, { on := 2, ground := Go.Ground.chain }], guard := none }) rfl (fun K hK => ?_) AllReadyH.nil)
          (go_simp; refine (hV2 _).mono ?_; rintro e w2 ⟨rfl, rfl⟩)
          refine hK.out _ _ trivial (fun hS => ?_)
          clear hK K
          try simp only [Act.put, sb, s0, sz]
          refine takeW 7 ⟨some 16, .convert 22 3 (.tmp 15), 3, "ref.go:67", #[⟨6, .data⟩], none⟩ ?_ (.inl ⟨by rfl, ?_⟩) hS ?_
          rotate_left
          · (intro w hSw; (try dsimp only at hSw); go_simp; (try with_reducible rfl))
          try simp only [Act.put, sb, s0, sz]
          refine wpAnyH_ready (rs := [10]) (by kernel_rfl) (by simp) ?_
          refine (AllReadyH.cons (o := { dst := some 19, op := Go.Op.call { callee := Go.Callee.value (Go.Operand.func 57), args := #[Go.Operand.tmp 18], argTypes := #[9] }, type := 22, pos := "ref.go:67", after := #[{ on := 9, ground := Go.Ground.data }, { on := 6, ground := Go.Ground.chain }], guard := none }) rfl (fun K hK => ?_) AllReadyH.nil)
          (go_simp; refine (hV3 _).mono ?_; rintro e w2 ⟨rfl, rfl⟩)
          refine hK.out _ _ trivial (fun hS => ?_)
          clear hK K
          try simp only [Act.put, sb, s0, sz]
          refine takeW 11 ⟨some 20, .convert 22 47 (.tmp 19), 47, "ref.go:67", #[⟨10, .data⟩], none⟩ ?_ (.inl ⟨by rfl, ?_⟩) hS ?_
          rotate_left
          · (intro w hSw; (try dsimp only at hSw); go_simp; (try with_reducible rfl))
          try simp only [Act.put, sb, s0, sz]
          refine takeW 12 ⟨some 21, .build 53 #[(0, .tmp 12), (1, .tmp 16), (2, .tmp 20)], 53, "ref.go:67", #[⟨3, .data⟩, ⟨7, .data⟩, ⟨11, .data⟩], none⟩ ?_ (.inl ⟨by rfl, ?_⟩) hS ?_
          rotate_left
          · (intro w hSw; (try dsimp only at hSw); go_simp; (try with_reducible rfl))
          try simp only [Act.put, sb, s0, sz]
          refine wpAnyH_ready (rs := [14]) (by kernel_rfl) (by simp) ?_
          refine (AllReadyH.cons (o := { dst := none, op := Go.Op.store 53 (Go.Operand.tmp 4) (Go.Operand.tmp 21), type := 0, pos := "ref.go:67", after := #[{ on := 13, ground := Go.Ground.data }, { on := 12, ground := Go.Ground.data }, { on := 10, ground := Go.Ground.chain }, { on := 0, ground := Go.Ground.phase }, { on := 1, ground := Go.Ground.phase }, { on := 2, ground := Go.Ground.phase }, { on := 3, ground := Go.Ground.phase }, { on := 4, ground := Go.Ground.phase }, { on := 5, ground := Go.Ground.phase }, { on := 6, ground := Go.Ground.phase }, { on := 7, ground := Go.Ground.phase }, { on := 8, ground := Go.Ground.phase }, { on := 9, ground := Go.Ground.phase }, { on := 10, ground := Go.Ground.phase }, { on := 11, ground := Go.Ground.phase }, { on := 12, ground := Go.Ground.phase }, { on := 13, ground := Go.Ground.phase }], guard := none }) rfl (fun K hK => ?_) AllReadyH.nil)
          (refine step_storeW hEa 0 rfl (by rfl) (by rfl) (by rfl) (xs := [.int .i64 bx, .int .i64 us, .int .u32 su]) (by rfl) Tryd.sizeOf53 rfl (by simp [Value.oneCell']) rfl ?_; intro w6 hEs; simp only [List.set_cons_zero, List.set_cons_succ] at hEs)
          refine hK.out _ _ trivial (fun hS => ?_)
          clear hK K
          try simp only [Act.put, sb, s0, sz]
          refine wpAnyH_done (by kernel_rfl) ?_ _
      rotate_right
      focus
        (go_simp; have hEa := hE.drew.alloc (.cells #[.int .i64 0, .int .i64 0, .int .u32 0] 53))
        refine hK.out _ _ trivial (fun hS => ?_)
        clear hK K
        try simp only [Act.put, sb, s0, sz]
        refine wpAnyH_ready (rs := [2]) (by kernel_rfl) (by simp) ?_
        refine (AllReadyH.cons (o := { dst := some 11, op := Go.Op.call { callee := Go.Callee.value (Go.Operand.func 57), args := #[Go.Operand.tmp 10], argTypes := #[9] }, type := 22, pos := "ref.go:67", after := #[{ on := 1, ground := Go.Ground.data }], guard := none }) rfl (fun K hK => ?_) AllReadyH.nil)
        (go_simp; refine (hV1 _).mono ?_; rintro e w2 ⟨rfl, rfl⟩)
        refine hK.out _ _ trivial (fun hS => ?_)
        clear hK K
        try simp only [Act.put, sb, s0, sz]
        refine takeW 3 ⟨some 12, .convert 22 3 (.tmp 11), 3, "ref.go:67", #[⟨2, .data⟩], none⟩ ?_ (.inl ⟨by rfl, ?_⟩) hS ?_
        rotate_left
        · (intro w hSw; (try dsimp only at hSw); go_simp; (try with_reducible rfl))
        try simp only [Act.put, sb, s0, sz]
        refine wpAnyH_ready (rs := [6]) (by kernel_rfl) (by simp) ?_
        refine (AllReadyH.cons (o := { dst := some 15, op := Go.Op.call { callee := Go.Callee.value (Go.Operand.func 57), args := #[Go.Operand.tmp 14], argTypes := #[9] }, type := 22, pos := "ref.go:67", after := #[{ on := 5, ground := Go.Ground.data }, { on := 2, ground := Go.Ground.chain }], guard := none }) rfl (fun K hK => ?_) AllReadyH.nil)
        (go_simp; refine (hV2 _).mono ?_; rintro e w2 ⟨rfl, rfl⟩)
        refine hK.out _ _ trivial (fun hS => ?_)
        clear hK K
        try simp only [Act.put, sb, s0, sz]
        refine takeW 7 ⟨some 16, .convert 22 3 (.tmp 15), 3, "ref.go:67", #[⟨6, .data⟩], none⟩ ?_ (.inl ⟨by rfl, ?_⟩) hS ?_
        rotate_left
        · (intro w hSw; (try dsimp only at hSw); go_simp; (try with_reducible rfl))
        try simp only [Act.put, sb, s0, sz]
        refine wpAnyH_ready (rs := [10]) (by kernel_rfl) (by simp) ?_
        refine (AllReadyH.cons (o := { dst := some 19, op := Go.Op.call { callee := Go.Callee.value (Go.Operand.func 57), args := #[Go.Operand.tmp 18], argTypes := #[9] }, type := 22, pos := "ref.go:67", after := #[{ on := 9, ground := Go.Ground.data }, { on := 6, ground := Go.Ground.chain }], guard := none }) rfl (fun K hK => ?_) AllReadyH.nil)
        (go_simp; refine (hV3 _).mono ?_; rintro e w2 ⟨rfl, rfl⟩)
        refine hK.out _ _ trivial (fun hS => ?_)
        clear hK K
        try simp only [Act.put, sb, s0, sz]
        refine takeW 11 ⟨some 20, .convert 22 47 (.tmp 19), 47, "ref.go:67", #[⟨10, .data⟩], none⟩ ?_ (.inl ⟨by rfl, ?_⟩) hS ?_
        rotate_left
        · (intro w hSw; (try dsimp only at hSw); go_simp; (try with_reducible rfl))
        try simp only [Act.put, sb, s0, sz]
        refine takeW 12 ⟨some 21, .build 53 #[(0, .tmp 12), (1, .tmp 16), (2, .tmp 20)], 53, "ref.go:67", #[⟨3, .data⟩, ⟨7, .data⟩, ⟨11, .data⟩], none⟩ ?_ (.inl ⟨by rfl, ?_⟩) hS ?_
        rotate_left
        · (intro w hSw; (try dsimp only at hSw); go_simp; (try with_reducible rfl))
        try simp only [Act.put, sb, s0, sz]
        refine wpAnyH_ready (rs := [14]) (by kernel_rfl) (by simp) ?_
        refine (AllReadyH.cons (o := { dst := none, op := Go.Op.store 53 (Go.Operand.tmp 4) (Go.Operand.tmp 21), type := 0, pos := "ref.go:67", after := #[{ on := 13, ground := Go.Ground.data }, { on := 12, ground := Go.Ground.data }, { on := 10, ground := Go.Ground.chain }, { on := 0, ground := Go.Ground.phase }, { on := 1, ground := Go.Ground.phase }, { on := 2, ground := Go.Ground.phase }, { on := 3, ground := Go.Ground.phase }, { on := 4, ground := Go.Ground.phase }, { on := 5, ground := Go.Ground.phase }, { on := 6, ground := Go.Ground.phase }, { on := 7, ground := Go.Ground.phase }, { on := 8, ground := Go.Ground.phase }, { on := 9, ground := Go.Ground.phase }, { on := 10, ground := Go.Ground.phase }, { on := 11, ground := Go.Ground.phase }, { on := 12, ground := Go.Ground.phase }, { on := 13, ground := Go.Ground.phase }], guard := none }) rfl (fun K hK => ?_) AllReadyH.nil)
        (refine step_storeW hEa 0 rfl (by rfl) (by rfl) (by rfl) (xs := [.int .i64 bx, .int .i64 us, .int .u32 su]) (by rfl) Tryd.sizeOf53 rfl (by simp [Value.oneCell']) rfl ?_; intro w6 hEs; simp only [List.set_cons_zero, List.set_cons_succ] at hEs)
        refine hK.out _ _ trivial (fun hS => ?_)
        clear hK K
        try simp only [Act.put, sb, s0, sz]
        refine wpAnyH_done (by kernel_rfl) ?_ _
      all_goals
        replace hE := hEs
        clear hEs hEa hV1 hV2 hV3 hs1 hs2 hs3
        change Ent (pt w.heap.size _ :: _) _ at hE
        generalize w.heap.size = b5 at *
        go_wp2_with (first
          | go_skip
          | ((with_reducible (show Go.wpList _ _ _ (Go.Oper.mk _ (.load 53 _) _ _ _ _ :: _) _ _)); (first | (refine wpl_loadW hE 0 rfl rfl rfl rfl Tryd.isAgg53 Tryd.sizeOf53 rfl ?_) | (refine wpl_loadW hE 1 rfl rfl rfl rfl Tryd.isAgg53 Tryd.sizeOf53 rfl ?_) | (refine wpl_loadW hE 2 rfl rfl rfl rfl Tryd.isAgg53 Tryd.sizeOf53 rfl ?_) | (refine wpl_loadW hE 3 rfl rfl rfl rfl Tryd.isAgg53 Tryd.sizeOf53 rfl ?_) | (refine wpl_loadW hE 4 rfl rfl rfl rfl Tryd.isAgg53 Tryd.sizeOf53 rfl ?_) | (refine wpl_loadW hE 5 rfl rfl rfl rfl Tryd.isAgg53 Tryd.sizeOf53 rfl ?_) | (refine wpl_loadW hE 6 rfl rfl rfl rfl Tryd.isAgg53 Tryd.sizeOf53 rfl ?_) | (refine wpl_loadW hE 7 rfl rfl rfl rfl Tryd.isAgg53 Tryd.sizeOf53 rfl ?_)))
          | ((with_reducible (show Go.wpList _ _ _ (Go.Oper.mk _ (.load _ _) _ _ _ _ :: _) _ _)); (first | (refine wpl_load1 hE 0 rfl rfl rfl rfl (by simp [go_sem]) rfl ?_) | (refine wpl_load1 hE 1 rfl rfl rfl rfl (by simp [go_sem]) rfl ?_) | (refine wpl_load1 hE 2 rfl rfl rfl rfl (by simp [go_sem]) rfl ?_) | (refine wpl_load1 hE 3 rfl rfl rfl rfl (by simp [go_sem]) rfl ?_) | (refine wpl_load1 hE 4 rfl rfl rfl rfl (by simp [go_sem]) rfl ?_) | (refine wpl_load1 hE 5 rfl rfl rfl rfl (by simp [go_sem]) rfl ?_) | (refine wpl_load1 hE 6 rfl rfl rfl rfl (by simp [go_sem]) rfl ?_) | (refine wpl_load1 hE 7 rfl rfl rfl rfl (by simp [go_sem]) rfl ?_)))
          | (go_at_call 23; refine (rhPut_any Hb1.out Hb2.out Hb3.out hE).mono ?_; clear hE; rintro e w6 ⟨v, rfl, rfl, hE⟩)
          | ((with_reducible (show Go.wpList _ _ _ (Go.Oper.mk _ (.store 53 _ _) _ _ _ _ :: _) _ _)); (first | (refine wpl_storeW hE 0 rfl rfl rfl (xs := [.int .i64 bx, .int .i64 us, .int .u32 su]) rfl rfl Tryd.sizeOf53 rfl (by simp [Value.oneCell']) rfl ?_) | (refine wpl_storeW hE 1 rfl rfl rfl (xs := [.int .i64 bx, .int .i64 us, .int .u32 su]) rfl rfl Tryd.sizeOf53 rfl (by simp [Value.oneCell']) rfl ?_) | (refine wpl_storeW hE 2 rfl rfl rfl (xs := [.int .i64 bx, .int .i64 us, .int .u32 su]) rfl rfl Tryd.sizeOf53 rfl (by simp [Value.oneCell']) rfl ?_) | (refine wpl_storeW hE 3 rfl rfl rfl (xs := [.int .i64 bx, .int .i64 us, .int .u32 su]) rfl rfl Tryd.sizeOf53 rfl (by simp [Value.oneCell']) rfl ?_) | (refine wpl_storeW hE 4 rfl rfl rfl (xs := [.int .i64 bx, .int .i64 us, .int .u32 su]) rfl rfl Tryd.sizeOf53 rfl (by simp [Value.oneCell']) rfl ?_) | (refine wpl_storeW hE 5 rfl rfl rfl (xs := [.int .i64 bx, .int .i64 us, .int .u32 su]) rfl rfl Tryd.sizeOf53 rfl (by simp [Value.oneCell']) rfl ?_) | (refine wpl_storeW hE 6 rfl rfl rfl (xs := [.int .i64 bx, .int .i64 us, .int .u32 su]) rfl rfl Tryd.sizeOf53 rfl (by simp [Value.oneCell']) rfl ?_) | (refine wpl_storeW hE 7 rfl rfl rfl (xs := [.int .i64 bx, .int .i64 us, .int .u32 su]) rfl rfl Tryd.sizeOf53 rfl (by simp [Value.oneCell']) rfl ?_)); clear hE; intro w hE; simp only [List.set_cons_zero, List.set_cons_succ] at hE))
        refine bodyPost_ret (results_cell2 rfl hE 1 rfl rfl Tryd.isAgg53 Tryd.sizeOf53 rfl rfl) rfl ?_
        rw [Hres.out, HresE.out, Hf.out]
        exact ⟨_, rfl, by rw [if_pos rfl, if_pos rfl, He.out]; rfl, hE.tail.tail⟩
    | false =>
      have Hf := SL.hid (show ok = false by rw [Hok.out, hq]; simp)
      clear hlen
      go_enter Tryd.func25, Tryd.ntmps25
      go_wp2_with (first
        | go_skip
        | ((with_reducible (show Go.wpList _ _ _ (Go.Oper.mk _ (.alloc _) _ _ _ _ :: _) _ _)); refine wpl_alloc hE rfl rfl (by simp [go_sem]; rfl) ?_; clear hE; intro b2_ w hE; simp only [Act.eval, Act.put, List.setIfInBounds_toArray, List.set_cons_zero, List.set_cons_succ, getD_lit, List.getD_cons_succ, List.getD_cons_zero, Value.cells] at hE))
      refine wp_region_held_drew (S := fun _ => True) (by kernel_rfl) trivial (fun hS => ?_)
      refine takeW 0 ⟨some 9, .move (.tmp 0), 9, "ref.go:67", #[], none⟩ ?_ (.inl ⟨by rfl, ?_⟩) hS ?_
      rotate_left
      · (intro w hSw; (try dsimp only at hSw); go_simp; (try with_reducible rfl))
      try simp only [Act.put, sb, s0, sz]
      refine takeW 1 ⟨some 10, .slice 9 (.tmp 9) (some (.const (.int .i64 4))) (some (.const (.int .i64 6))) none, 9, "ref.go:67", #[⟨0, .data⟩], none⟩ ?_ (.inl ⟨by rfl, ?_⟩) hS ?_
      rotate_left
      · (intro w hSw; (try dsimp only at hSw); go_simp; (try with_reducible rfl))
      try simp only [Act.put, sb, s0, sz]
      refine takeW 4 ⟨some 13, .move (.tmp 0), 9, "ref.go:67", #[], none⟩ ?_ (.inl ⟨by rfl, ?_⟩) hS ?_
      rotate_left
      · (intro w hSw; (try dsimp only at hSw); go_simp; (try with_reducible rfl))
      try simp only [Act.put, sb, s0, sz]
      refine takeW 5 ⟨some 14, .slice 9 (.tmp 13) (some (.const (.int .i64 6))) (some (.const (.int .i64 8))) none, 9, "ref.go:67", #[⟨4, .data⟩], none⟩ ?_ (.inl ⟨by rfl, ?_⟩) hS ?_
      rotate_left
      · (intro w hSw; (try dsimp only at hSw); go_simp; (try with_reducible rfl))
      try simp only [Act.put, sb, s0, sz]
      refine takeW 8 ⟨some 17, .move (.tmp 0), 9, "ref.go:67", #[], none⟩ ?_ (.inl ⟨by rfl, ?_⟩) hS ?_
      rotate_left
      · (intro w hSw; (try dsimp only at hSw); go_simp; (try with_reducible rfl))
      try simp only [Act.put, sb, s0, sz]
      refine takeW 9 ⟨some 18, .slice 9 (.tmp 17) (some (.const (.int .i64 8))) (some (.const (.int .i64 12))) none, 9, "ref.go:67", #[⟨8, .data⟩], none⟩ ?_ (.inl ⟨by rfl, ?_⟩) hS ?_
      rotate_left
      · (intro w hSw; (try dsimp only at hSw); go_simp; (try with_reducible rfl))
      try simp only [Act.put, sb, s0, sz]
      refine wpAnyH_ready (rs := [2, 13]) (by kernel_rfl) (by simp) ?_
      refine (AllReadyH.cons (o := { dst := some 11, op := Go.Op.call { callee := Go.Callee.value (Go.Operand.func 57), args := #[Go.Operand.tmp 10], argTypes := #[9] }, type := 22, pos := "ref.go:67", after := #[{ on := 1, ground := Go.Ground.data }], guard := none }) rfl (fun K hK => ?_) (AllReadyH.cons (o := { dst := some 4, op := Go.Op.alloc 53, type := 0, pos := "ref.go:67", after := #[], guard := none }) rfl (fun K hK => ?_) AllReadyH.nil))
      focus
        (go_simp; refine (hV1 _).mono ?_; rintro e w2 ⟨rfl, rfl⟩)
        refine hK.out _ _ trivial (fun hS => ?_)
        clear hK K
        try simp only [Act.put, sb, s0, sz]
        refine takeW 3 ⟨some 12, .convert 22 3 (.tmp 11), 3, "ref.go:67", #[⟨2, .data⟩], none⟩ ?_ (.inl ⟨by rfl, ?_⟩) hS ?_
        rotate_left
        · (intro w hSw; (try dsimp only at hSw); go_simp; (try with_reducible rfl))
        try simp only [Act.put, sb, s0, sz]
        refine wpAnyH_ready (rs := [6, 13]) (by kernel_rfl) (by simp) ?_
        refine (AllReadyH.cons (o := { dst := some 15, op := Go.Op.call { callee := Go.Callee.value (Go.Operand.func 57), args := #[Go.Operand.tmp 14], argTypes := #[9] }, type := 22, pos := "ref.go:67", after := #[{ on := 5, ground := Go.Ground.data }, { on := 2, ground := Go.Ground.chain }], guard := none }) rfl (fun K hK => ?_) (AllReadyH.cons (o := { dst := some 4, op := Go.Op.alloc 53, type := 0, pos := "ref.go:67", after := #[], guard := none }) rfl (fun K hK => ?_) AllReadyH.nil))
        focus
          (go_simp; refine (hV2 _).mono ?_; rintro e w2 ⟨rfl, rfl⟩)
          refine hK.out _ _ trivial (fun hS => ?_)
          clear hK K
          try simp only [Act.put, sb, s0, sz]
          refine takeW 7 ⟨some 16, .convert 22 3 (.tmp 15), 3, "ref.go:67", #[⟨6, .data⟩], none⟩ ?_ (.inl ⟨by rfl, ?_⟩) hS ?_
          rotate_left
          · (intro w hSw; (try dsimp only at hSw); go_simp; (try with_reducible rfl))
          try simp only [Act.put, sb, s0, sz]
          refine wpAnyH_ready (rs := [10, 13]) (by kernel_rfl) (by simp) ?_
          refine (AllReadyH.cons (o := { dst := some 19, op := Go.Op.call { callee := Go.Callee.value (Go.Operand.func 57), args := #[Go.Operand.tmp 18], argTypes := #[9] }, type := 22, pos := "ref.go:67", after := #[{ on := 9, ground := Go.Ground.data }, { on := 6, ground := Go.Ground.chain }], guard := none }) rfl (fun K hK => ?_) (AllReadyH.cons (o := { dst := some 4, op := Go.Op.alloc 53, type := 0, pos := "ref.go:67", after := #[], guard := none }) rfl (fun K hK => ?_) AllReadyH.nil))
          focus
            (go_simp; refine (hV3 _).mono ?_; rintro e w2 ⟨rfl, rfl⟩)
            refine hK.out _ _ trivial (fun hS => ?_)
            clear hK K
            try simp only [Act.put, sb, s0, sz]
            refine takeW 11 ⟨some 20, .convert 22 47 (.tmp 19), 47, "ref.go:67", #[⟨10, .data⟩], none⟩ ?_ (.inl ⟨by rfl, ?_⟩) hS ?_
            rotate_left
            · (intro w hSw; (try dsimp only at hSw); go_simp; (try with_reducible rfl))
            try simp only [Act.put, sb, s0, sz]
            refine takeW 12 ⟨some 21, .build 53 #[(0, .tmp 12), (1, .tmp 16), (2, .tmp 20)], 53, "ref.go:67", #[⟨3, .data⟩, ⟨7, .data⟩, ⟨11, .data⟩], none⟩ ?_ (.inl ⟨by rfl, ?_⟩) hS ?_
            rotate_left
            · (intro w hSw; (try dsimp only at hSw); go_simp; (try with_reducible rfl))
            try simp only [Act.put, sb, s0, sz]
            refine wpAnyH_ready (rs := [13]) (by kernel_rfl) (by simp) ?_
            refine (AllReadyH.cons (o := { dst := some 4, op := Go.Op.alloc 53, type := 0, pos := "ref.go:67", after := #[], guard := none }) rfl (fun K hK => ?_) AllReadyH.nil)
            (go_simp; have hEa := hE.drew.alloc (.cells #[.int .i64 0, .int .i64 0, .int .u32 0] 53))
            refine hK.out _ _ trivial (fun hS => ?_)
            clear hK K
            try simp only [Act.put, sb, s0, sz]
            refine wpAnyH_ready (rs := [14]) (by kernel_rfl) (by simp) ?_
            refine (AllReadyH.cons (o := { dst := none, op := Go.Op.store 53 (Go.Operand.tmp 4) (Go.Operand.tmp 21), type := 0, pos := "ref.go:67", after := #[{ on := 13, ground := Go.Ground.data }, { on := 12, ground := Go.Ground.data }, { on := 10, ground := Go.Ground.chain }, { on := 0, ground := Go.Ground.phase }, { on := 1, ground := Go.Ground.phase }, { on := 2, ground := Go.Ground.phase }, { on := 3, ground := Go.Ground.phase }, { on := 4, ground := Go.Ground.phase }, { on := 5, ground := Go.Ground.phase }, { on := 6, ground := Go.Ground.phase }, { on := 7, ground := Go.Ground.phase }, { on := 8, ground := Go.Ground.phase }, { on := 9, ground := Go.Ground.phase }, { on := 10, ground := Go.Ground.phase }, { on := 11, ground := Go.Ground.phase }, { on := 12, ground := Go.Ground.phase }, { on := 13, ground := Go.Ground.phase }], guard := none }) rfl (fun K hK => ?_) AllReadyH.nil)
            (refine step_storeW hEa 0 rfl (by rfl) (by rfl) (by rfl) (xs := [.int .i64 bx, .int .i64 us, .int .u32 su]) (by rfl) Tryd.sizeOf53 rfl (by simp [Value.oneCell']) rfl ?_; intro w6 hEs; simp only [List.set_cons_zero, List.set_cons_succ] at hEs)
            refine hK.out _ _ trivial (fun hS => ?_)
            clear hK K
            try simp only [Act.put, sb, s0, sz]
            refine wpAnyH_done (by kernel_rfl) ?_ _
          rotate_right
          focus
            (go_simp; have hEa := hE.drew.alloc (.cells #[.int .i64 0, .int .i64 0, .int .u32 0] 53))
            refine hK.out _ _ trivial (fun hS => ?_)
            clear hK K
            try simp only [Act.put, sb, s0, sz]
            refine wpAnyH_ready (rs := [10]) (by kernel_rfl) (by simp) ?_
            refine (AllReadyH.cons (o := { dst := some 19, op := Go.Op.call { callee := Go.Callee.value (Go.Operand.func 57), args := #[Go.Operand.tmp 18], argTypes := #[9] }, type := 22, pos := "ref.go:67", after := #[{ on := 9, ground := Go.Ground.data }, { on := 6, ground := Go.Ground.chain }], guard := none }) rfl (fun K hK => ?_) AllReadyH.nil)
            (go_simp; refine (hV3 _).mono ?_; rintro e w2 ⟨rfl, rfl⟩)
            refine hK.out _ _ trivial (fun hS => ?_)
            clear hK K
            try simp only [Act.put, sb, s0, sz]
            refine takeW 11 ⟨some 20, .convert 22 47 (.tmp 19), 47, "ref.go:67", #[⟨10, .data⟩], none⟩ ?_ (.inl ⟨by rfl, ?_⟩) hS ?_
            rotate_left
            · (intro w hSw; (try dsimp only at hSw); go_simp; (try with_reducible rfl))
            try simp only [Act.put, sb, s0, sz]
            refine takeW 12 ⟨some 21, .build 53 #[(0, .tmp 12), (1, .tmp 16), (2, .tmp 20)], 53, "ref.go:67", #[⟨3, .data⟩, ⟨7, .data⟩, ⟨11, .data⟩], none⟩ ?_ (.inl ⟨by rfl, ?_⟩) hS ?_
            rotate_left
            · (intro w hSw; (try dsimp only at hSw); go_simp; (try with_reducible rfl))
            try simp only [Act.put, sb, s0, sz]
            refine wpAnyH_ready (rs := [14]) (by kernel_rfl) (by simp) ?_
            refine (AllReadyH.cons (o := { dst := none, op := Go.Op.store 53 (Go.Operand.tmp 4) (Go.Operand.tmp 21), type := 0, pos := "ref.go:67", after := #[{ on := 13, ground := Go.Ground.data }, { on := 12, ground := Go.Ground.data }, { on := 10, ground := Go.Ground.chain }, { on := 0, ground := Go.Ground.phase }, { on := 1, ground := Go.Ground.phase }, { on := 2, ground := Go.Ground.phase }, { on := 3, ground := Go.Ground.phase }, { on := 4, ground := Go.Ground.phase }, { on := 5, ground := Go.Ground.phase }, { on := 6, ground := Go.Ground.phase }, { on := 7, ground := Go.Ground.phase }, { on := 8, ground := Go.Ground.phase }, { on := 9, ground := Go.Ground.phase }, { on := 10, ground := Go.Ground.phase }, { on := 11, ground := Go.Ground.phase }, { on := 12, ground := Go.Ground.phase }, { on := 13, ground := Go.Ground.phase }], guard := none }) rfl (fun K hK => ?_) AllReadyH.nil)
            (refine step_storeW hEa 0 rfl (by rfl) (by rfl) (by rfl) (xs := [.int .i64 bx, .int .i64 us, .int .u32 su]) (by rfl) Tryd.sizeOf53 rfl (by simp [Value.oneCell']) rfl ?_; intro w6 hEs; simp only [List.set_cons_zero, List.set_cons_succ] at hEs)
            refine hK.out _ _ trivial (fun hS => ?_)
            clear hK K
            try simp only [Act.put, sb, s0, sz]
            refine wpAnyH_done (by kernel_rfl) ?_ _
        rotate_right
        focus
          (go_simp; have hEa := hE.drew.alloc (.cells #[.int .i64 0, .int .i64 0, .int .u32 0] 53))
          refine hK.out _ _ trivial (fun hS => ?_)
          clear hK K
          try simp only [Act.put, sb, s0, sz]
          refine wpAnyH_ready (rs := [6]) (by kernel_rfl) (by simp) ?_
          refine (AllReadyH.cons (o := { dst := some 15, op := Go.Op.call { callee := Go.Callee.value (Go.Operand.func 57), args := #[Go.Operand.tmp 14], argTypes := #[9] }, type := 22, pos := "ref.go:67", after := #[{ on := 5, ground := Go.Ground.data }, { on := 2, ground := Go.Ground.chain }], guard := none }) rfl (fun K hK => ?_) AllReadyH.nil)
          (go_simp; refine (hV2 _).mono ?_; rintro e w2 ⟨rfl, rfl⟩)
          refine hK.out _ _ trivial (fun hS => ?_)
          clear hK K
          try simp only [Act.put, sb, s0, sz]
          refine takeW 7 ⟨some 16, .convert 22 3 (.tmp 15), 3, "ref.go:67", #[⟨6, .data⟩], none⟩ ?_ (.inl ⟨by rfl, ?_⟩) hS ?_
          rotate_left
          · (intro w hSw; (try dsimp only at hSw); go_simp; (try with_reducible rfl))
          try simp only [Act.put, sb, s0, sz]
          refine wpAnyH_ready (rs := [10]) (by kernel_rfl) (by simp) ?_
          refine (AllReadyH.cons (o := { dst := some 19, op := Go.Op.call { callee := Go.Callee.value (Go.Operand.func 57), args := #[Go.Operand.tmp 18], argTypes := #[9] }, type := 22, pos := "ref.go:67", after := #[{ on := 9, ground := Go.Ground.data }, { on := 6, ground := Go.Ground.chain }], guard := none }) rfl (fun K hK => ?_) AllReadyH.nil)
          (go_simp; refine (hV3 _).mono ?_; rintro e w2 ⟨rfl, rfl⟩)
          refine hK.out _ _ trivial (fun hS => ?_)
          clear hK K
          try simp only [Act.put, sb, s0, sz]
          refine takeW 11 ⟨some 20, .convert 22 47 (.tmp 19), 47, "ref.go:67", #[⟨10, .data⟩], none⟩ ?_ (.inl ⟨by rfl, ?_⟩) hS ?_
          rotate_left
          · (intro w hSw; (try dsimp only at hSw); go_simp; (try with_reducible rfl))
          try simp only [Act.put, sb, s0, sz]
          refine takeW 12 ⟨some 21, .build 53 #[(0, .tmp 12), (1, .tmp 16), (2, .tmp 20)], 53, "ref.go:67", #[⟨3, .data⟩, ⟨7, .data⟩, ⟨11, .data⟩], none⟩ ?_ (.inl ⟨by rfl, ?_⟩) hS ?_
          rotate_left
          · (intro w hSw; (try dsimp only at hSw); go_simp; (try with_reducible rfl))
          try simp only [Act.put, sb, s0, sz]
          refine wpAnyH_ready (rs := [14]) (by kernel_rfl) (by simp) ?_
          refine (AllReadyH.cons (o := { dst := none, op := Go.Op.store 53 (Go.Operand.tmp 4) (Go.Operand.tmp 21), type := 0, pos := "ref.go:67", after := #[{ on := 13, ground := Go.Ground.data }, { on := 12, ground := Go.Ground.data }, { on := 10, ground := Go.Ground.chain }, { on := 0, ground := Go.Ground.phase }, { on := 1, ground := Go.Ground.phase }, { on := 2, ground := Go.Ground.phase }, { on := 3, ground := Go.Ground.phase }, { on := 4, ground := Go.Ground.phase }, { on := 5, ground := Go.Ground.phase }, { on := 6, ground := Go.Ground.phase }, { on := 7, ground := Go.Ground.phase }, { on := 8, ground := Go.Ground.phase }, { on := 9, ground := Go.Ground.phase }, { on := 10, ground := Go.Ground.phase }, { on := 11, ground := Go.Ground.phase }, { on := 12, ground := Go.Ground.phase }, { on := 13, ground := Go.Ground.phase }], guard := none }) rfl (fun K hK => ?_) AllReadyH.nil)
          (refine step_storeW hEa 0 rfl (by rfl) (by rfl) (by rfl) (xs := [.int .i64 bx, .int .i64 us, .int .u32 su]) (by rfl) Tryd.sizeOf53 rfl (by simp [Value.oneCell']) rfl ?_; intro w6 hEs; simp only [List.set_cons_zero, List.set_cons_succ] at hEs)
          refine hK.out _ _ trivial (fun hS => ?_)
          clear hK K
          try simp only [Act.put, sb, s0, sz]
          refine wpAnyH_done (by kernel_rfl) ?_ _
      rotate_right
      focus
        (go_simp; have hEa := hE.drew.alloc (.cells #[.int .i64 0, .int .i64 0, .int .u32 0] 53))
        refine hK.out _ _ trivial (fun hS => ?_)
        clear hK K
        try simp only [Act.put, sb, s0, sz]
        refine wpAnyH_ready (rs := [2]) (by kernel_rfl) (by simp) ?_
        refine (AllReadyH.cons (o := { dst := some 11, op := Go.Op.call { callee := Go.Callee.value (Go.Operand.func 57), args := #[Go.Operand.tmp 10], argTypes := #[9] }, type := 22, pos := "ref.go:67", after := #[{ on := 1, ground := Go.Ground.data }], guard := none }) rfl (fun K hK => ?_) AllReadyH.nil)
        (go_simp; refine (hV1 _).mono ?_; rintro e w2 ⟨rfl, rfl⟩)
        refine hK.out _ _ trivial (fun hS => ?_)
        clear hK K
        try simp only [Act.put, sb, s0, sz]
        refine takeW 3 ⟨some 12, .convert 22 3 (.tmp 11), 3, "ref.go:67", #[⟨2, .data⟩], none⟩ ?_ (.inl ⟨by rfl, ?_⟩) hS ?_
        rotate_left
        · (intro w hSw; (try dsimp only at hSw); go_simp; (try with_reducible rfl))
        try simp only [Act.put, sb, s0, sz]
        refine wpAnyH_ready (rs := [6]) (by kernel_rfl) (by simp) ?_
        refine (AllReadyH.cons (o := { dst := some 15, op := Go.Op.call { callee := Go.Callee.value (Go.Operand.func 57), args := #[Go.Operand.tmp 14], argTypes := #[9] }, type := 22, pos := "ref.go:67", after := #[{ on := 5, ground := Go.Ground.data }, { on := 2, ground := Go.Ground.chain }], guard := none }) rfl (fun K hK => ?_) AllReadyH.nil)
        (go_simp; refine (hV2 _).mono ?_; rintro e w2 ⟨rfl, rfl⟩)
        refine hK.out _ _ trivial (fun hS => ?_)
        clear hK K
        try simp only [Act.put, sb, s0, sz]
        refine takeW 7 ⟨some 16, .convert 22 3 (.tmp 15), 3, "ref.go:67", #[⟨6, .data⟩], none⟩ ?_ (.inl ⟨by rfl, ?_⟩) hS ?_
        rotate_left
        · (intro w hSw; (try dsimp only at hSw); go_simp; (try with_reducible rfl))
        try simp only [Act.put, sb, s0, sz]
        refine wpAnyH_ready (rs := [10]) (by kernel_rfl) (by simp) ?_
        refine (AllReadyH.cons (o := { dst := some 19, op := Go.Op.call { callee := Go.Callee.value (Go.Operand.func 57), args := #[Go.Operand.tmp 18], argTypes := #[9] }, type := 22, pos := "ref.go:67", after := #[{ on := 9, ground := Go.Ground.data }, { on := 6, ground := Go.Ground.chain }], guard := none }) rfl (fun K hK => ?_) AllReadyH.nil)
        (go_simp; refine (hV3 _).mono ?_; rintro e w2 ⟨rfl, rfl⟩)
        refine hK.out _ _ trivial (fun hS => ?_)
        clear hK K
        try simp only [Act.put, sb, s0, sz]
        refine takeW 11 ⟨some 20, .convert 22 47 (.tmp 19), 47, "ref.go:67", #[⟨10, .data⟩], none⟩ ?_ (.inl ⟨by rfl, ?_⟩) hS ?_
        rotate_left
        · (intro w hSw; (try dsimp only at hSw); go_simp; (try with_reducible rfl))
        try simp only [Act.put, sb, s0, sz]
        refine takeW 12 ⟨some 21, .build 53 #[(0, .tmp 12), (1, .tmp 16), (2, .tmp 20)], 53, "ref.go:67", #[⟨3, .data⟩, ⟨7, .data⟩, ⟨11, .data⟩], none⟩ ?_ (.inl ⟨by rfl, ?_⟩) hS ?_
        rotate_left
        · (intro w hSw; (try dsimp only at hSw); go_simp; (try with_reducible rfl))
        try simp only [Act.put, sb, s0, sz]
        refine wpAnyH_ready (rs := [14]) (by kernel_rfl) (by simp) ?_
        refine (AllReadyH.cons (o := { dst := none, op := Go.Op.store 53 (Go.Operand.tmp 4) (Go.Operand.tmp 21), type := 0, pos := "ref.go:67", after := #[{ on := 13, ground := Go.Ground.data }, { on := 12, ground := Go.Ground.data }, { on := 10, ground := Go.Ground.chain }, { on := 0, ground := Go.Ground.phase }, { on := 1, ground := Go.Ground.phase }, { on := 2, ground := Go.Ground.phase }, { on := 3, ground := Go.Ground.phase }, { on := 4, ground := Go.Ground.phase }, { on := 5, ground := Go.Ground.phase }, { on := 6, ground := Go.Ground.phase }, { on := 7, ground := Go.Ground.phase }, { on := 8, ground := Go.Ground.phase }, { on := 9, ground := Go.Ground.phase }, { on := 10, ground := Go.Ground.phase }, { on := 11, ground := Go.Ground.phase }, { on := 12, ground := Go.Ground.phase }, { on := 13, ground := Go.Ground.phase }], guard := none }) rfl (fun K hK => ?_) AllReadyH.nil)
        (refine step_storeW hEa 0 rfl (by rfl) (by rfl) (by rfl) (xs := [.int .i64 bx, .int .i64 us, .int .u32 su]) (by rfl) Tryd.sizeOf53 rfl (by simp [Value.oneCell']) rfl ?_; intro w6 hEs; simp only [List.set_cons_zero, List.set_cons_succ] at hEs)
        refine hK.out _ _ trivial (fun hS => ?_)
        clear hK K
        try simp only [Act.put, sb, s0, sz]
        refine wpAnyH_done (by kernel_rfl) ?_ _
      all_goals
        replace hE := hEs
        clear hEs hEa hV1 hV2 hV3 hs1 hs2 hs3
        change Ent (pt w.heap.size _ :: _) _ at hE
        generalize w.heap.size = b5 at *
        go_wp2_with (first
          | go_skip
          | ((with_reducible (show Go.wpList _ _ _ (Go.Oper.mk _ (.load 53 _) _ _ _ _ :: _) _ _)); (first | (refine wpl_loadW hE 0 rfl rfl rfl rfl Tryd.isAgg53 Tryd.sizeOf53 rfl ?_) | (refine wpl_loadW hE 1 rfl rfl rfl rfl Tryd.isAgg53 Tryd.sizeOf53 rfl ?_) | (refine wpl_loadW hE 2 rfl rfl rfl rfl Tryd.isAgg53 Tryd.sizeOf53 rfl ?_) | (refine wpl_loadW hE 3 rfl rfl rfl rfl Tryd.isAgg53 Tryd.sizeOf53 rfl ?_) | (refine wpl_loadW hE 4 rfl rfl rfl rfl Tryd.isAgg53 Tryd.sizeOf53 rfl ?_) | (refine wpl_loadW hE 5 rfl rfl rfl rfl Tryd.isAgg53 Tryd.sizeOf53 rfl ?_) | (refine wpl_loadW hE 6 rfl rfl rfl rfl Tryd.isAgg53 Tryd.sizeOf53 rfl ?_) | (refine wpl_loadW hE 7 rfl rfl rfl rfl Tryd.isAgg53 Tryd.sizeOf53 rfl ?_)))
          | ((with_reducible (show Go.wpList _ _ _ (Go.Oper.mk _ (.load _ _) _ _ _ _ :: _) _ _)); (first | (refine wpl_load1 hE 0 rfl rfl rfl rfl (by simp [go_sem]) rfl ?_) | (refine wpl_load1 hE 1 rfl rfl rfl rfl (by simp [go_sem]) rfl ?_) | (refine wpl_load1 hE 2 rfl rfl rfl rfl (by simp [go_sem]) rfl ?_) | (refine wpl_load1 hE 3 rfl rfl rfl rfl (by simp [go_sem]) rfl ?_) | (refine wpl_load1 hE 4 rfl rfl rfl rfl (by simp [go_sem]) rfl ?_) | (refine wpl_load1 hE 5 rfl rfl rfl rfl (by simp [go_sem]) rfl ?_) | (refine wpl_load1 hE 6 rfl rfl rfl rfl (by simp [go_sem]) rfl ?_) | (refine wpl_load1 hE 7 rfl rfl rfl rfl (by simp [go_sem]) rfl ?_)))
          | (go_at_call 23; refine (rhPut_any Hb1.out Hb2.out Hb3.out hE).mono ?_; clear hE; rintro e w6 ⟨v, rfl, rfl, hE⟩)
          | ((with_reducible (show Go.wpList _ _ _ (Go.Oper.mk _ (.store 53 _ _) _ _ _ _ :: _) _ _)); (first | (refine wpl_storeW hE 0 rfl rfl rfl (xs := [.int .i64 0, .int .i64 0, .int .u32 0]) rfl rfl Tryd.sizeOf53 rfl (by simp [Value.oneCell']) rfl ?_) | (refine wpl_storeW hE 1 rfl rfl rfl (xs := [.int .i64 0, .int .i64 0, .int .u32 0]) rfl rfl Tryd.sizeOf53 rfl (by simp [Value.oneCell']) rfl ?_) | (refine wpl_storeW hE 2 rfl rfl rfl (xs := [.int .i64 0, .int .i64 0, .int .u32 0]) rfl rfl Tryd.sizeOf53 rfl (by simp [Value.oneCell']) rfl ?_) | (refine wpl_storeW hE 3 rfl rfl rfl (xs := [.int .i64 0, .int .i64 0, .int .u32 0]) rfl rfl Tryd.sizeOf53 rfl (by simp [Value.oneCell']) rfl ?_) | (refine wpl_storeW hE 4 rfl rfl rfl (xs := [.int .i64 0, .int .i64 0, .int .u32 0]) rfl rfl Tryd.sizeOf53 rfl (by simp [Value.oneCell']) rfl ?_) | (refine wpl_storeW hE 5 rfl rfl rfl (xs := [.int .i64 0, .int .i64 0, .int .u32 0]) rfl rfl Tryd.sizeOf53 rfl (by simp [Value.oneCell']) rfl ?_) | (refine wpl_storeW hE 6 rfl rfl rfl (xs := [.int .i64 0, .int .i64 0, .int .u32 0]) rfl rfl Tryd.sizeOf53 rfl (by simp [Value.oneCell']) rfl ?_) | (refine wpl_storeW hE 7 rfl rfl rfl (xs := [.int .i64 0, .int .i64 0, .int .u32 0]) rfl rfl Tryd.sizeOf53 rfl (by simp [Value.oneCell']) rfl ?_)); clear hE; intro w hE; simp only [List.set_cons_zero, List.set_cons_succ] at hE))
        refine bodyPost_ret (results_cell2 rfl hE 1 rfl rfl Tryd.isAgg53 Tryd.sizeOf53 rfl rfl) rfl ?_
        rw [Hres.out, HresE.out, Hf.out]
        exact ⟨_, rfl, rfl, hE.tail.tail⟩
  | true =>
    have Hf := SL.hid (show ok = false by have := of_decide_eq_true hu; rw [Hok.out, show decide (us ≤ 2048) = false from decide_eq_false (by omega)]; simp)
    go_enter Tryd.func25, Tryd.ntmps25
    go_wp2_with (first
      | go_skip
      | ((with_reducible (show Go.wpList _ _ _ (Go.Oper.mk _ (.alloc _) _ _ _ _ :: _) _ _)); refine wpl_alloc hE rfl rfl (by simp [go_sem]; rfl) ?_; clear hE; intro b2_ w hE; simp only [Act.eval, Act.put, List.setIfInBounds_toArray, List.set_cons_zero, List.set_cons_succ, getD_lit, List.getD_cons_succ, List.getD_cons_zero, Value.cells] at hE))
    refine wp_region_held_drew (S := fun _ => True) (by kernel_rfl) trivial (fun hS => ?_)
    refine takeW 0 ⟨some 9, .move (.tmp 0), 9, "ref.go:67", #[], none⟩ ?_ (.inl ⟨by rfl, ?_⟩) hS ?_
    rotate_left
    · (intro w hSw; (try dsimp only at hSw); go_simp; (try with_reducible rfl))
    try simp only [Act.put, sb, s0, sz]
    refine takeW 1 ⟨some 10, .slice 9 (.tmp 9) (some (.const (.int .i64 4))) (some (.const (.int .i64 6))) none, 9, "ref.go:67", #[⟨0, .data⟩], none⟩ ?_ (.inl ⟨by rfl, ?_⟩) hS ?_
    rotate_left
    · (intro w hSw; (try dsimp only at hSw); go_simp; (try with_reducible rfl))
    try simp only [Act.put, sb, s0, sz]
    refine takeW 4 ⟨some 13, .move (.tmp 0), 9, "ref.go:67", #[], none⟩ ?_ (.inl ⟨by rfl, ?_⟩) hS ?_
    rotate_left
    · (intro w hSw; (try dsimp only at hSw); go_simp; (try with_reducible rfl))
    try simp only [Act.put, sb, s0, sz]
    refine takeW 5 ⟨some 14, .slice 9 (.tmp 13) (some (.const (.int .i64 6))) (some (.const (.int .i64 8))) none, 9, "ref.go:67", #[⟨4, .data⟩], none⟩ ?_ (.inl ⟨by rfl, ?_⟩) hS ?_
    rotate_left
    · (intro w hSw; (try dsimp only at hSw); go_simp; (try with_reducible rfl))
    try simp only [Act.put, sb, s0, sz]
    refine takeW 8 ⟨some 17, .move (.tmp 0), 9, "ref.go:67", #[], none⟩ ?_ (.inl ⟨by rfl, ?_⟩) hS ?_
    rotate_left
    · (intro w hSw; (try dsimp only at hSw); go_simp; (try with_reducible rfl))
    try simp only [Act.put, sb, s0, sz]
    refine takeW 9 ⟨some 18, .slice 9 (.tmp 17) (some (.const (.int .i64 8))) (some (.const (.int .i64 12))) none, 9, "ref.go:67", #[⟨8, .data⟩], none⟩ ?_ (.inl ⟨by rfl, ?_⟩) hS ?_
    rotate_left
    · (intro w hSw; (try dsimp only at hSw); go_simp; (try with_reducible rfl))
    try simp only [Act.put, sb, s0, sz]
    refine wpAnyH_ready (rs := [2, 13]) (by kernel_rfl) (by simp) ?_
    refine (AllReadyH.cons (o := { dst := some 11, op := Go.Op.call { callee := Go.Callee.value (Go.Operand.func 57), args := #[Go.Operand.tmp 10], argTypes := #[9] }, type := 22, pos := "ref.go:67", after := #[{ on := 1, ground := Go.Ground.data }], guard := none }) rfl (fun K hK => ?_) (AllReadyH.cons (o := { dst := some 4, op := Go.Op.alloc 53, type := 0, pos := "ref.go:67", after := #[], guard := none }) rfl (fun K hK => ?_) AllReadyH.nil))
    focus
      (go_simp; refine (hV1 _).mono ?_; rintro e w2 ⟨rfl, rfl⟩)
      refine hK.out _ _ trivial (fun hS => ?_)
      clear hK K
      try simp only [Act.put, sb, s0, sz]
      refine takeW 3 ⟨some 12, .convert 22 3 (.tmp 11), 3, "ref.go:67", #[⟨2, .data⟩], none⟩ ?_ (.inl ⟨by rfl, ?_⟩) hS ?_
      rotate_left
      · (intro w hSw; (try dsimp only at hSw); go_simp; (try with_reducible rfl))
      try simp only [Act.put, sb, s0, sz]
      refine wpAnyH_ready (rs := [6, 13]) (by kernel_rfl) (by simp) ?_
      refine (AllReadyH.cons (o := { dst := some 15, op := Go.Op.call { callee := Go.Callee.value (Go.Operand.func 57), args := #[Go.Operand.tmp 14], argTypes := #[9] }, type := 22, pos := "ref.go:67", after := #[{ on := 5, ground := Go.Ground.data }, { on := 2, ground := Go.Ground.chain }], guard := none }) rfl (fun K hK => ?_) (AllReadyH.cons (o := { dst := some 4, op := Go.Op.alloc 53, type := 0, pos := "ref.go:67", after := #[], guard := none }) rfl (fun K hK => ?_) AllReadyH.nil))
      focus
        (go_simp; refine (hV2 _).mono ?_; rintro e w2 ⟨rfl, rfl⟩)
        refine hK.out _ _ trivial (fun hS => ?_)
        clear hK K
        try simp only [Act.put, sb, s0, sz]
        refine takeW 7 ⟨some 16, .convert 22 3 (.tmp 15), 3, "ref.go:67", #[⟨6, .data⟩], none⟩ ?_ (.inl ⟨by rfl, ?_⟩) hS ?_
        rotate_left
        · (intro w hSw; (try dsimp only at hSw); go_simp; (try with_reducible rfl))
        try simp only [Act.put, sb, s0, sz]
        refine wpAnyH_ready (rs := [10, 13]) (by kernel_rfl) (by simp) ?_
        refine (AllReadyH.cons (o := { dst := some 19, op := Go.Op.call { callee := Go.Callee.value (Go.Operand.func 57), args := #[Go.Operand.tmp 18], argTypes := #[9] }, type := 22, pos := "ref.go:67", after := #[{ on := 9, ground := Go.Ground.data }, { on := 6, ground := Go.Ground.chain }], guard := none }) rfl (fun K hK => ?_) (AllReadyH.cons (o := { dst := some 4, op := Go.Op.alloc 53, type := 0, pos := "ref.go:67", after := #[], guard := none }) rfl (fun K hK => ?_) AllReadyH.nil))
        focus
          (go_simp; refine (hV3 _).mono ?_; rintro e w2 ⟨rfl, rfl⟩)
          refine hK.out _ _ trivial (fun hS => ?_)
          clear hK K
          try simp only [Act.put, sb, s0, sz]
          refine takeW 11 ⟨some 20, .convert 22 47 (.tmp 19), 47, "ref.go:67", #[⟨10, .data⟩], none⟩ ?_ (.inl ⟨by rfl, ?_⟩) hS ?_
          rotate_left
          · (intro w hSw; (try dsimp only at hSw); go_simp; (try with_reducible rfl))
          try simp only [Act.put, sb, s0, sz]
          refine takeW 12 ⟨some 21, .build 53 #[(0, .tmp 12), (1, .tmp 16), (2, .tmp 20)], 53, "ref.go:67", #[⟨3, .data⟩, ⟨7, .data⟩, ⟨11, .data⟩], none⟩ ?_ (.inl ⟨by rfl, ?_⟩) hS ?_
          rotate_left
          · (intro w hSw; (try dsimp only at hSw); go_simp; (try with_reducible rfl))
          try simp only [Act.put, sb, s0, sz]
          refine wpAnyH_ready (rs := [13]) (by kernel_rfl) (by simp) ?_
          refine (AllReadyH.cons (o := { dst := some 4, op := Go.Op.alloc 53, type := 0, pos := "ref.go:67", after := #[], guard := none }) rfl (fun K hK => ?_) AllReadyH.nil)
          (go_simp; have hEa := hE.drew.alloc (.cells #[.int .i64 0, .int .i64 0, .int .u32 0] 53))
          refine hK.out _ _ trivial (fun hS => ?_)
          clear hK K
          try simp only [Act.put, sb, s0, sz]
          refine wpAnyH_ready (rs := [14]) (by kernel_rfl) (by simp) ?_
          refine (AllReadyH.cons (o := { dst := none, op := Go.Op.store 53 (Go.Operand.tmp 4) (Go.Operand.tmp 21), type := 0, pos := "ref.go:67", after := #[{ on := 13, ground := Go.Ground.data }, { on := 12, ground := Go.Ground.data }, { on := 10, ground := Go.Ground.chain }, { on := 0, ground := Go.Ground.phase }, { on := 1, ground := Go.Ground.phase }, { on := 2, ground := Go.Ground.phase }, { on := 3, ground := Go.Ground.phase }, { on := 4, ground := Go.Ground.phase }, { on := 5, ground := Go.Ground.phase }, { on := 6, ground := Go.Ground.phase }, { on := 7, ground := Go.Ground.phase }, { on := 8, ground := Go.Ground.phase }, { on := 9, ground := Go.Ground.phase }, { on := 10, ground := Go.Ground.phase }, { on := 11, ground := Go.Ground.phase }, { on := 12, ground := Go.Ground.phase }, { on := 13, ground := Go.Ground.phase }], guard := none }) rfl (fun K hK => ?_) AllReadyH.nil)
          (refine step_storeW hEa 0 rfl (by rfl) (by rfl) (by rfl) (xs := [.int .i64 bx, .int .i64 us, .int .u32 su]) (by rfl) Tryd.sizeOf53 rfl (by simp [Value.oneCell']) rfl ?_; intro w6 hEs; simp only [List.set_cons_zero, List.set_cons_succ] at hEs)
          refine hK.out _ _ trivial (fun hS => ?_)
          clear hK K
          try simp only [Act.put, sb, s0, sz]
          refine wpAnyH_done (by kernel_rfl) ?_ _
        rotate_right
        focus
          (go_simp; have hEa := hE.drew.alloc (.cells #[.int .i64 0, .int .i64 0, .int .u32 0] 53))
          refine hK.out _ _ trivial (fun hS => ?_)
          clear hK K
          try simp only [Act.put, sb, s0, sz]
          refine wpAnyH_ready (rs := [10]) (by kernel_rfl) (by simp) ?_
          refine (AllReadyH.cons (o := { dst := some 19, op := Go.Op.call { callee := Go.Callee.value (Go.Operand.func 57), args := #[Go.Operand.tmp 18], argTypes := #[9] }, type := 22, pos := "ref.go:67", after := #[{ on := 9, ground := Go.Ground.data }, { on := 6, ground := Go.Ground.chain }], guard := none }) rfl (fun K hK => ?_) AllReadyH.nil)
          (go_simp; refine (hV3 _).mono ?_; rintro e w2 ⟨rfl, rfl⟩)
          refine hK.out _ _ trivial (fun hS => ?_)
          clear hK K
          try simp only [Act.put, sb, s0, sz]
          refine takeW 11 ⟨some 20, .convert 22 47 (.tmp 19), 47, "ref.go:67", #[⟨10, .data⟩], none⟩ ?_ (.inl ⟨by rfl, ?_⟩) hS ?_
          rotate_left
          · (intro w hSw; (try dsimp only at hSw); go_simp; (try with_reducible rfl))
          try simp only [Act.put, sb, s0, sz]
          refine takeW 12 ⟨some 21, .build 53 #[(0, .tmp 12), (1, .tmp 16), (2, .tmp 20)], 53, "ref.go:67", #[⟨3, .data⟩, ⟨7, .data⟩, ⟨11, .data⟩], none⟩ ?_ (.inl ⟨by rfl, ?_⟩) hS ?_
          rotate_left
          · (intro w hSw; (try dsimp only at hSw); go_simp; (try with_reducible rfl))
          try simp only [Act.put, sb, s0, sz]
          refine wpAnyH_ready (rs := [14]) (by kernel_rfl) (by simp) ?_
          refine (AllReadyH.cons (o := { dst := none, op := Go.Op.store 53 (Go.Operand.tmp 4) (Go.Operand.tmp 21), type := 0, pos := "ref.go:67", after := #[{ on := 13, ground := Go.Ground.data }, { on := 12, ground := Go.Ground.data }, { on := 10, ground := Go.Ground.chain }, { on := 0, ground := Go.Ground.phase }, { on := 1, ground := Go.Ground.phase }, { on := 2, ground := Go.Ground.phase }, { on := 3, ground := Go.Ground.phase }, { on := 4, ground := Go.Ground.phase }, { on := 5, ground := Go.Ground.phase }, { on := 6, ground := Go.Ground.phase }, { on := 7, ground := Go.Ground.phase }, { on := 8, ground := Go.Ground.phase }, { on := 9, ground := Go.Ground.phase }, { on := 10, ground := Go.Ground.phase }, { on := 11, ground := Go.Ground.phase }, { on := 12, ground := Go.Ground.phase }, { on := 13, ground := Go.Ground.phase }], guard := none }) rfl (fun K hK => ?_) AllReadyH.nil)
          (refine step_storeW hEa 0 rfl (by rfl) (by rfl) (by rfl) (xs := [.int .i64 bx, .int .i64 us, .int .u32 su]) (by rfl) Tryd.sizeOf53 rfl (by simp [Value.oneCell']) rfl ?_; intro w6 hEs; simp only [List.set_cons_zero, List.set_cons_succ] at hEs)
          refine hK.out _ _ trivial (fun hS => ?_)
          clear hK K
          try simp only [Act.put, sb, s0, sz]
          refine wpAnyH_done (by kernel_rfl) ?_ _
      rotate_right
      focus
        (go_simp; have hEa := hE.drew.alloc (.cells #[.int .i64 0, .int .i64 0, .int .u32 0] 53))
        refine hK.out _ _ trivial (fun hS => ?_)
        clear hK K
        try simp only [Act.put, sb, s0, sz]
        refine wpAnyH_ready (rs := [6]) (by kernel_rfl) (by simp) ?_
        refine (AllReadyH.cons (o := { dst := some 15, op := Go.Op.call { callee := Go.Callee.value (Go.Operand.func 57), args := #[Go.Operand.tmp 14], argTypes := #[9] }, type := 22, pos := "ref.go:67", after := #[{ on := 5, ground := Go.Ground.data }, { on := 2, ground := Go.Ground.chain }], guard := none }) rfl (fun K hK => ?_) AllReadyH.nil)
        (go_simp; refine (hV2 _).mono ?_; rintro e w2 ⟨rfl, rfl⟩)
        refine hK.out _ _ trivial (fun hS => ?_)
        clear hK K
        try simp only [Act.put, sb, s0, sz]
        refine takeW 7 ⟨some 16, .convert 22 3 (.tmp 15), 3, "ref.go:67", #[⟨6, .data⟩], none⟩ ?_ (.inl ⟨by rfl, ?_⟩) hS ?_
        rotate_left
        · (intro w hSw; (try dsimp only at hSw); go_simp; (try with_reducible rfl))
        try simp only [Act.put, sb, s0, sz]
        refine wpAnyH_ready (rs := [10]) (by kernel_rfl) (by simp) ?_
        refine (AllReadyH.cons (o := { dst := some 19, op := Go.Op.call { callee := Go.Callee.value (Go.Operand.func 57), args := #[Go.Operand.tmp 18], argTypes := #[9] }, type := 22, pos := "ref.go:67", after := #[{ on := 9, ground := Go.Ground.data }, { on := 6, ground := Go.Ground.chain }], guard := none }) rfl (fun K hK => ?_) AllReadyH.nil)
        (go_simp; refine (hV3 _).mono ?_; rintro e w2 ⟨rfl, rfl⟩)
        refine hK.out _ _ trivial (fun hS => ?_)
        clear hK K
        try simp only [Act.put, sb, s0, sz]
        refine takeW 11 ⟨some 20, .convert 22 47 (.tmp 19), 47, "ref.go:67", #[⟨10, .data⟩], none⟩ ?_ (.inl ⟨by rfl, ?_⟩) hS ?_
        rotate_left
        · (intro w hSw; (try dsimp only at hSw); go_simp; (try with_reducible rfl))
        try simp only [Act.put, sb, s0, sz]
        refine takeW 12 ⟨some 21, .build 53 #[(0, .tmp 12), (1, .tmp 16), (2, .tmp 20)], 53, "ref.go:67", #[⟨3, .data⟩, ⟨7, .data⟩, ⟨11, .data⟩], none⟩ ?_ (.inl ⟨by rfl, ?_⟩) hS ?_
        rotate_left
        · (intro w hSw; (try dsimp only at hSw); go_simp; (try with_reducible rfl))
        try simp only [Act.put, sb, s0, sz]
        refine wpAnyH_ready (rs := [14]) (by kernel_rfl) (by simp) ?_
        refine (AllReadyH.cons (o := { dst := none, op := Go.Op.store 53 (Go.Operand.tmp 4) (Go.Operand.tmp 21), type := 0, pos := "ref.go:67", after := #[{ on := 13, ground := Go.Ground.data }, { on := 12, ground := Go.Ground.data }, { on := 10, ground := Go.Ground.chain }, { on := 0, ground := Go.Ground.phase }, { on := 1, ground := Go.Ground.phase }, { on := 2, ground := Go.Ground.phase }, { on := 3, ground := Go.Ground.phase }, { on := 4, ground := Go.Ground.phase }, { on := 5, ground := Go.Ground.phase }, { on := 6, ground := Go.Ground.phase }, { on := 7, ground := Go.Ground.phase }, { on := 8, ground := Go.Ground.phase }, { on := 9, ground := Go.Ground.phase }, { on := 10, ground := Go.Ground.phase }, { on := 11, ground := Go.Ground.phase }, { on := 12, ground := Go.Ground.phase }, { on := 13, ground := Go.Ground.phase }], guard := none }) rfl (fun K hK => ?_) AllReadyH.nil)
        (refine step_storeW hEa 0 rfl (by rfl) (by rfl) (by rfl) (xs := [.int .i64 bx, .int .i64 us, .int .u32 su]) (by rfl) Tryd.sizeOf53 rfl (by simp [Value.oneCell']) rfl ?_; intro w6 hEs; simp only [List.set_cons_zero, List.set_cons_succ] at hEs)
        refine hK.out _ _ trivial (fun hS => ?_)
        clear hK K
        try simp only [Act.put, sb, s0, sz]
        refine wpAnyH_done (by kernel_rfl) ?_ _
    rotate_right
    focus
      (go_simp; have hEa := hE.drew.alloc (.cells #[.int .i64 0, .int .i64 0, .int .u32 0] 53))
      refine hK.out _ _ trivial (fun hS => ?_)
      clear hK K
      try simp only [Act.put, sb, s0, sz]
      refine wpAnyH_ready (rs := [2]) (by kernel_rfl) (by simp) ?_
      refine (AllReadyH.cons (o := { dst := some 11, op := Go.Op.call { callee := Go.Callee.value (Go.Operand.func 57), args := #[Go.Operand.tmp 10], argTypes := #[9] }, type := 22, pos := "ref.go:67", after := #[{ on := 1, ground := Go.Ground.data }], guard := none }) rfl (fun K hK => ?_) AllReadyH.nil)
      (go_simp; refine (hV1 _).mono ?_; rintro e w2 ⟨rfl, rfl⟩)
      refine hK.out _ _ trivial (fun hS => ?_)
      clear hK K
      try simp only [Act.put, sb, s0, sz]
      refine takeW 3 ⟨some 12, .convert 22 3 (.tmp 11), 3, "ref.go:67", #[⟨2, .data⟩], none⟩ ?_ (.inl ⟨by rfl, ?_⟩) hS ?_
      rotate_left
      · (intro w hSw; (try dsimp only at hSw); go_simp; (try with_reducible rfl))
      try simp only [Act.put, sb, s0, sz]
      refine wpAnyH_ready (rs := [6]) (by kernel_rfl) (by simp) ?_
      refine (AllReadyH.cons (o := { dst := some 15, op := Go.Op.call { callee := Go.Callee.value (Go.Operand.func 57), args := #[Go.Operand.tmp 14], argTypes := #[9] }, type := 22, pos := "ref.go:67", after := #[{ on := 5, ground := Go.Ground.data }, { on := 2, ground := Go.Ground.chain }], guard := none }) rfl (fun K hK => ?_) AllReadyH.nil)
      (go_simp; refine (hV2 _).mono ?_; rintro e w2 ⟨rfl, rfl⟩)
      refine hK.out _ _ trivial (fun hS => ?_)
      clear hK K
      try simp only [Act.put, sb, s0, sz]
      refine takeW 7 ⟨some 16, .convert 22 3 (.tmp 15), 3, "ref.go:67", #[⟨6, .data⟩], none⟩ ?_ (.inl ⟨by rfl, ?_⟩) hS ?_
      rotate_left
      · (intro w hSw; (try dsimp only at hSw); go_simp; (try with_reducible rfl))
      try simp only [Act.put, sb, s0, sz]
      refine wpAnyH_ready (rs := [10]) (by kernel_rfl) (by simp) ?_
      refine (AllReadyH.cons (o := { dst := some 19, op := Go.Op.call { callee := Go.Callee.value (Go.Operand.func 57), args := #[Go.Operand.tmp 18], argTypes := #[9] }, type := 22, pos := "ref.go:67", after := #[{ on := 9, ground := Go.Ground.data }, { on := 6, ground := Go.Ground.chain }], guard := none }) rfl (fun K hK => ?_) AllReadyH.nil)
      (go_simp; refine (hV3 _).mono ?_; rintro e w2 ⟨rfl, rfl⟩)
      refine hK.out _ _ trivial (fun hS => ?_)
      clear hK K
      try simp only [Act.put, sb, s0, sz]
      refine takeW 11 ⟨some 20, .convert 22 47 (.tmp 19), 47, "ref.go:67", #[⟨10, .data⟩], none⟩ ?_ (.inl ⟨by rfl, ?_⟩) hS ?_
      rotate_left
      · (intro w hSw; (try dsimp only at hSw); go_simp; (try with_reducible rfl))
      try simp only [Act.put, sb, s0, sz]
      refine takeW 12 ⟨some 21, .build 53 #[(0, .tmp 12), (1, .tmp 16), (2, .tmp 20)], 53, "ref.go:67", #[⟨3, .data⟩, ⟨7, .data⟩, ⟨11, .data⟩], none⟩ ?_ (.inl ⟨by rfl, ?_⟩) hS ?_
      rotate_left
      · (intro w hSw; (try dsimp only at hSw); go_simp; (try with_reducible rfl))
      try simp only [Act.put, sb, s0, sz]
      refine wpAnyH_ready (rs := [14]) (by kernel_rfl) (by simp) ?_
      refine (AllReadyH.cons (o := { dst := none, op := Go.Op.store 53 (Go.Operand.tmp 4) (Go.Operand.tmp 21), type := 0, pos := "ref.go:67", after := #[{ on := 13, ground := Go.Ground.data }, { on := 12, ground := Go.Ground.data }, { on := 10, ground := Go.Ground.chain }, { on := 0, ground := Go.Ground.phase }, { on := 1, ground := Go.Ground.phase }, { on := 2, ground := Go.Ground.phase }, { on := 3, ground := Go.Ground.phase }, { on := 4, ground := Go.Ground.phase }, { on := 5, ground := Go.Ground.phase }, { on := 6, ground := Go.Ground.phase }, { on := 7, ground := Go.Ground.phase }, { on := 8, ground := Go.Ground.phase }, { on := 9, ground := Go.Ground.phase }, { on := 10, ground := Go.Ground.phase }, { on := 11, ground := Go.Ground.phase }, { on := 12, ground := Go.Ground.phase }, { on := 13, ground := Go.Ground.phase }], guard := none }) rfl (fun K hK => ?_) AllReadyH.nil)
      (refine step_storeW hEa 0 rfl (by rfl) (by rfl) (by rfl) (xs := [.int .i64 bx, .int .i64 us, .int .u32 su]) (by rfl) Tryd.sizeOf53 rfl (by simp [Value.oneCell']) rfl ?_; intro w6 hEs; simp only [List.set_cons_zero, List.set_cons_succ] at hEs)
      refine hK.out _ _ trivial (fun hS => ?_)
      clear hK K
      try simp only [Act.put, sb, s0, sz]
      refine wpAnyH_done (by kernel_rfl) ?_ _
    all_goals
      replace hE := hEs
      clear hEs hEa hV1 hV2 hV3 hs1 hs2 hs3
      change Ent (pt w.heap.size _ :: _) _ at hE
      generalize w.heap.size = b5 at *
      go_wp2_with (first
        | go_skip
        | ((with_reducible (show Go.wpList _ _ _ (Go.Oper.mk _ (.load 53 _) _ _ _ _ :: _) _ _)); (first | (refine wpl_loadW hE 0 rfl rfl rfl rfl Tryd.isAgg53 Tryd.sizeOf53 rfl ?_) | (refine wpl_loadW hE 1 rfl rfl rfl rfl Tryd.isAgg53 Tryd.sizeOf53 rfl ?_) | (refine wpl_loadW hE 2 rfl rfl rfl rfl Tryd.isAgg53 Tryd.sizeOf53 rfl ?_) | (refine wpl_loadW hE 3 rfl rfl rfl rfl Tryd.isAgg53 Tryd.sizeOf53 rfl ?_) | (refine wpl_loadW hE 4 rfl rfl rfl rfl Tryd.isAgg53 Tryd.sizeOf53 rfl ?_) | (refine wpl_loadW hE 5 rfl rfl rfl rfl Tryd.isAgg53 Tryd.sizeOf53 rfl ?_) | (refine wpl_loadW hE 6 rfl rfl rfl rfl Tryd.isAgg53 Tryd.sizeOf53 rfl ?_) | (refine wpl_loadW hE 7 rfl rfl rfl rfl Tryd.isAgg53 Tryd.sizeOf53 rfl ?_)))
        | ((with_reducible (show Go.wpList _ _ _ (Go.Oper.mk _ (.load _ _) _ _ _ _ :: _) _ _)); (first | (refine wpl_load1 hE 0 rfl rfl rfl rfl (by simp [go_sem]) rfl ?_) | (refine wpl_load1 hE 1 rfl rfl rfl rfl (by simp [go_sem]) rfl ?_) | (refine wpl_load1 hE 2 rfl rfl rfl rfl (by simp [go_sem]) rfl ?_) | (refine wpl_load1 hE 3 rfl rfl rfl rfl (by simp [go_sem]) rfl ?_) | (refine wpl_load1 hE 4 rfl rfl rfl rfl (by simp [go_sem]) rfl ?_) | (refine wpl_load1 hE 5 rfl rfl rfl rfl (by simp [go_sem]) rfl ?_) | (refine wpl_load1 hE 6 rfl rfl rfl rfl (by simp [go_sem]) rfl ?_) | (refine wpl_load1 hE 7 rfl rfl rfl rfl (by simp [go_sem]) rfl ?_)))
        | ((with_reducible (show Go.wpList _ _ _ (Go.Oper.mk _ (.store 53 _ _) _ _ _ _ :: _) _ _)); (first | (refine wpl_storeW hE 0 rfl rfl rfl (xs := [.int .i64 0, .int .i64 0, .int .u32 0]) rfl rfl Tryd.sizeOf53 rfl (by simp [Value.oneCell']) rfl ?_) | (refine wpl_storeW hE 1 rfl rfl rfl (xs := [.int .i64 0, .int .i64 0, .int .u32 0]) rfl rfl Tryd.sizeOf53 rfl (by simp [Value.oneCell']) rfl ?_) | (refine wpl_storeW hE 2 rfl rfl rfl (xs := [.int .i64 0, .int .i64 0, .int .u32 0]) rfl rfl Tryd.sizeOf53 rfl (by simp [Value.oneCell']) rfl ?_) | (refine wpl_storeW hE 3 rfl rfl rfl (xs := [.int .i64 0, .int .i64 0, .int .u32 0]) rfl rfl Tryd.sizeOf53 rfl (by simp [Value.oneCell']) rfl ?_) | (refine wpl_storeW hE 4 rfl rfl rfl (xs := [.int .i64 0, .int .i64 0, .int .u32 0]) rfl rfl Tryd.sizeOf53 rfl (by simp [Value.oneCell']) rfl ?_) | (refine wpl_storeW hE 5 rfl rfl rfl (xs := [.int .i64 0, .int .i64 0, .int .u32 0]) rfl rfl Tryd.sizeOf53 rfl (by simp [Value.oneCell']) rfl ?_) | (refine wpl_storeW hE 6 rfl rfl rfl (xs := [.int .i64 0, .int .i64 0, .int .u32 0]) rfl rfl Tryd.sizeOf53 rfl (by simp [Value.oneCell']) rfl ?_) | (refine wpl_storeW hE 7 rfl rfl rfl (xs := [.int .i64 0, .int .i64 0, .int .u32 0]) rfl rfl Tryd.sizeOf53 rfl (by simp [Value.oneCell']) rfl ?_)); clear hE; intro w hE; simp only [List.set_cons_zero, List.set_cons_succ] at hE))
      refine bodyPost_ret (results_cell2 rfl hE 1 rfl rfl Tryd.isAgg53 Tryd.sizeOf53 rfl rfl) rfl ?_
      rw [Hres.out, HresE.out, Hf.out]
      exact ⟨_, rfl, rfl, hE.tail.tail⟩
theorem rhTake_any {b : List UInt8} (hb : b.length ≤ 1000000) {l : List HProp} {w : World} (hE : Ent l w) :
    Calls Tryd.prog 25 #[.string ⟨b.toArray⟩] w (Ret fun v w' => v = .tuple #[hdV (resHD b), .int .i64 (resHDE b)] ∧ Ent l w') := by
  cases h : b.length == 512 with
  | true => exact rhTake_512 (by simpa using h) hE
  | false => exact rhTake_short hb h hE
end Go.Proofs.YtdpfigkjkjjedaaDoor
namespace Go.Proofs.YtdpfigkjkjjedaaDoor
open Go.RowKit Go.SL

/-- a record's bytes -/
def rcP (hs data : List UInt8) : List UInt8 := hs ++ (be 2 data.length ++ data)
theorem rcP_len {hs data : List UInt8} (h : hs.length = 32) : (rcP hs data).length = 34 + data.length := by
  rw [rcP, List.length_append, List.length_append, be_length, h]; omega
theorem recPut_long {hs data : List UInt8} (h : 2014 < data.length) {l : List HProp} {w : World} (hE : Ent l w) :
    Calls Tryd.prog 26 #[.agg (bvals hs).toArray, .string ⟨data.toArray⟩] w (Ret fun v w' => v = .tuple #[.slice none 0 0, .int .i64 6] ∧ Ent l w') := by
  have hd : decide ((2014 : Int) < (data.length : Int)) = true := decide_eq_true (by omega)
  go_enter Tryd.func26, Tryd.ntmps26
  go_wp2_with (first
    | go_skip
    | ((with_reducible (show Go.wpList _ _ _ (Go.Oper.mk _ (.box _ _) _ _ _ _ :: _) _ _)); refine wpl_box hE rfl rfl rfl ?_; clear hE; intro b1 w hE; simp only [Act.eval, Act.put, List.setIfInBounds_toArray, List.set_cons_zero, List.set_cons_succ, getD_lit, List.getD_cons_succ, List.getD_cons_zero, Value.cells] at hE))
  go_ret2
  exact ⟨_, rfl, rfl, hE.tail⟩
set_option maxRecDepth 100000 in
set_option maxHeartbeats 4000000 in
attribute [-go_sem] Instr.loadAt in
theorem recPut_ok {hs data : List UInt8} (h32 : hs.length = 32) (h : data.length ≤ 2014) {l : List HProp} {w : World} (hE : Ent l w) :
    Calls Tryd.prog 26 #[.agg (bvals hs).toArray, .string ⟨data.toArray⟩] w (Ret fun v w' => ∃ ao c, v = .tuple #[.slice ao (rcP hs data).length c, .int .i64 0] ∧ Ent (rowB ao c (rcP hs data) :: l) w') := by
  have hd : decide ((2014 : Int) < (data.length : Int)) = false := decide_eq_false (by omega)
  have hl0 : IntKind.u64.wrap (data.length : Int) = data.length := wrapU_id (by omega)
  have H32 := SL.hid h32
  have Hb := SL.hid (bvals_length hs)
  have Hp := SL.hid (show [] ++ hs ++ be 2 data.length ++ data = rcP hs data by simp only [rcP, List.nil_append, List.append_assoc])
  have Hl := SL.hid (rcP_len (data := data) h32)
  generalize hv : bvals hs = vs at *
  have Hv := SL.hid hv
  clear h32 hv
  go_enter Tryd.func26, Tryd.ntmps26
  go_wp2_with (first
    | go_skip
    | ((with_reducible (show Go.wpList _ _ _ (Go.Oper.mk _ (.box _ _) _ _ _ _ :: _) _ _)); refine wpl_box hE rfl rfl rfl ?_; clear hE; intro b1 w hE; simp only [Act.eval, Act.put, List.setIfInBounds_toArray, List.set_cons_zero, List.set_cons_succ, getD_lit, List.getD_cons_succ, List.getD_cons_zero, Value.cells] at hE))
  refine wp_region_held_drew (S := (fun w' => ((Instr.loadAt 66 (.pointer (some ⟨b1, 0, none⟩))).run Tryd.prog w' = .ok (.agg vs.toArray) w'))) (by kernel_rfl) (atWm hE.drew (by repeat (first | exact List.Mem.head _ | refine List.Mem.tail _ ?_)) Tryd.isAgg66 Tryd.sizeOf66 (by rw [Hb.out, H32.out])) (fun hS => ?_)
  refine takeW 1 ⟨some 10, .load 66 (.tmp 2), 66, "record.go:38", #[], none⟩ ?_ (.inl ⟨by rfl, ?_⟩) hS ?_
  rotate_left
  · (intro w hSw; (try dsimp only at hSw); go_simp; (try with_reducible rfl))
  try simp only [Act.put, sb, s0, sz]
  refine takeW 3 ⟨some 12, .move (.tmp 1), 9, "record.go:38", #[], none⟩ ?_ (.inl ⟨by rfl, ?_⟩) hS ?_
  rotate_left
  · (intro w hSw; (try dsimp only at hSw); go_simp; (try with_reducible rfl))
  try simp only [Act.put, sb, s0, sz]
  refine takeW 4 ⟨some 13, .call { callee := .builtin .len, args := #[.tmp 12], argTypes := #[9] }, 3, "record.go:38", #[⟨3, .data⟩], none⟩ ?_ (.inl ⟨by rfl, ?_⟩) hS ?_
  rotate_left
  · (intro w hSw; (try dsimp only at hSw); go_simp; (try with_reducible rfl))
  try simp only [Act.put, sb, s0, sz]
  refine takeW 5 ⟨some 14, .convert 3 22 (.tmp 13), 22, "record.go:38", #[⟨4, .data⟩], none⟩ ?_ (.inl ⟨by rfl, ?_⟩) hS ?_
  rotate_left
  · (intro w hSw; (try dsimp only at hSw); go_simp; (try with_reducible rfl))
  try simp only [Act.put, sb, s0, sz]
  refine takeW 7 ⟨some 16, .move (.tmp 1), 9, "record.go:38", #[], none⟩ ?_ (.inl ⟨by rfl, ?_⟩) hS ?_
  rotate_left
  · (intro w hSw; (try dsimp only at hSw); go_simp; (try with_reducible rfl))
  try simp only [Act.put, sb, s0, sz]
  refine wpAnyH_ready (rs := [0]) (by kernel_rfl) (by simp) ?_
  refine (AllReadyH.cons (o := { dst := some 9, op := Go.Op.call { callee := Go.Callee.value (Go.Operand.func 45), args := #[], argTypes := #[] }, type := 104, pos := "record.go:38", after := #[], guard := none }) rfl (fun K hK => ?_) AllReadyH.nil)
  (go_simp; refine (New_any hE.drew).mono ?_; rintro e w3 ⟨v, rfl, p, rfl, hE3⟩)
  refine hK.out _ _ (atWm hE3 (by repeat (first | exact List.Mem.head _ | refine List.Mem.tail _ ?_)) Tryd.isAgg66 Tryd.sizeOf66 (by rw [Hb.out, H32.out])) (fun hS => ?_)
  clear hK K
  try simp only [Act.put, sb, s0, sz]
  refine wpAnyH_ready (rs := [2]) (by kernel_rfl) (by simp) ?_
  refine (AllReadyH.cons (o := { dst := some 11, op := Go.Op.call { callee := Go.Callee.value (Go.Operand.func 64), args := #[Go.Operand.tmp 9, Go.Operand.tmp 10], argTypes := #[104, 66] }, type := 104, pos := "record.go:38", after := #[{ on := 0, ground := Go.Ground.data }, { on := 1, ground := Go.Ground.data }, { on := 0, ground := Go.Ground.chain }], guard := none }) rfl (fun K hK => ?_) AllReadyH.nil)
  (go_simp; rw [← Hv.out]; refine (Hash_any p hs H32.out hE3 (by simp)).mono ?_; rintro e w4 ⟨v, rfl, rfl, hE4⟩)
  refine hK.out _ _ (atWm hE4 (by repeat (first | exact List.Mem.head _ | refine List.Mem.tail _ ?_)) Tryd.isAgg66 Tryd.sizeOf66 (by rw [Hb.out, H32.out])) (fun hS => ?_)
  clear hK K
  try simp only [Act.put, sb, s0, sz]
  refine wpAnyH_ready (rs := [6]) (by kernel_rfl) (by simp) ?_
  refine (AllReadyH.cons (o := { dst := some 15, op := Go.Op.call { callee := Go.Callee.value (Go.Operand.func 46), args := #[Go.Operand.tmp 11, Go.Operand.const (Go.Value.int Go.IntKind.i64 2), Go.Operand.tmp 14], argTypes := #[104, 3, 22] }, type := 104, pos := "record.go:38", after := #[{ on := 2, ground := Go.Ground.data }, { on := 5, ground := Go.Ground.data }, { on := 2, ground := Go.Ground.chain }], guard := none }) rfl (fun K hK => ?_) AllReadyH.nil)
  (go_simp; refine (pPut2 (n := data.length) (by omega) hE4 (by have := H32.out; simp <;> omega)).mono ?_; rintro e w5 ⟨v, rfl, rfl, hE5⟩)
  refine hK.out _ _ (atWm hE5 (by repeat (first | exact List.Mem.head _ | refine List.Mem.tail _ ?_)) Tryd.isAgg66 Tryd.sizeOf66 (by rw [Hb.out, H32.out])) (fun hS => ?_)
  clear hK K
  try simp only [Act.put, sb, s0, sz]
  refine wpAnyH_ready (rs := [8]) (by kernel_rfl) (by simp) ?_
  refine (AllReadyH.cons (o := { dst := some 17, op := Go.Op.call { callee := Go.Callee.value (Go.Operand.func 47), args := #[Go.Operand.tmp 15, Go.Operand.tmp 16], argTypes := #[104, 9] }, type := 104, pos := "record.go:38", after := #[{ on := 6, ground := Go.Ground.data }, { on := 7, ground := Go.Ground.data }, { on := 6, ground := Go.Ground.chain }], guard := none }) rfl (fun K hK => ?_) AllReadyH.nil)
  (go_simp; refine (Text_any p data hE5 (by have := H32.out; simp [be_length] <;> omega)).mono ?_; rintro e w6 ⟨v, rfl, rfl, hE6⟩)
  refine hK.out _ _ (atWm hE6 (by repeat (first | exact List.Mem.head _ | refine List.Mem.tail _ ?_)) Tryd.isAgg66 Tryd.sizeOf66 (by rw [Hb.out, H32.out])) (fun hS => ?_)
  clear hK K
  try simp only [Act.put, sb, s0, sz]
  refine wpAnyH_ready (rs := [9]) (by kernel_rfl) (by simp) ?_
  refine (AllReadyH.cons (o := { dst := some 18, op := Go.Op.call { callee := Go.Callee.value (Go.Operand.func 49), args := #[Go.Operand.tmp 17], argTypes := #[104] }, type := 28, pos := "record.go:38", after := #[{ on := 8, ground := Go.Ground.data }, { on := 8, ground := Go.Ground.chain }], guard := none }) rfl (fun K hK => ?_) AllReadyH.nil)
  (go_simp; rw [Hp.out] at hE6; have H := Bytes_ok hE6 (by have := Hl.out; omega); refine H.mono ?_; clear H; rintro e w7 ⟨v, rfl, ao, c, rfl, hE7⟩)
  refine hK.out _ _ (atWm hE7 (by repeat (first | exact List.Mem.head _ | refine List.Mem.tail _ ?_)) Tryd.isAgg66 Tryd.sizeOf66 (by rw [Hb.out, H32.out])) (fun hS => ?_)
  clear hK K
  try simp only [Act.put, sb, s0, sz]
  refine takeW 10 ⟨some 19, .extract (.tmp 18) 0, 26, "record.go:38", #[⟨9, .data⟩], none⟩ ?_ (.inl ⟨by rfl, ?_⟩) hS ?_
  rotate_left
  · (intro w hSw; (try dsimp only at hSw); go_simp; (try with_reducible rfl))
  try simp only [Act.put, sb, s0, sz]
  refine takeW 11 ⟨some 20, .extract (.tmp 18) 1, 27, "record.go:38", #[⟨9, .data⟩], none⟩ ?_ (.inl ⟨by rfl, ?_⟩) hS ?_
  rotate_left
  · (intro w hSw; (try dsimp only at hSw); go_simp; (try with_reducible rfl))
  try simp only [Act.put, sb, s0, sz]
  refine takeW 12 ⟨some 4, .assign (.tmp 19), 26, "record.go:38", #[⟨10, .data⟩, ⟨9, .chain⟩, ⟨0, .phase⟩, ⟨1, .phase⟩, ⟨2, .phase⟩, ⟨3, .phase⟩, ⟨4, .phase⟩, ⟨5, .phase⟩, ⟨6, .phase⟩, ⟨7, .phase⟩, ⟨8, .phase⟩, ⟨9, .phase⟩, ⟨10, .phase⟩, ⟨11, .phase⟩], none⟩ ?_ (.inl ⟨by rfl, ?_⟩) hS ?_
  rotate_left
  · (intro w hSw; (try dsimp only at hSw); go_simp; (try with_reducible rfl))
  try simp only [Act.put, sb, s0, sz]
  refine takeW 13 ⟨some 5, .assign (.tmp 20), 27, "record.go:38", #[⟨11, .data⟩, ⟨12, .chain⟩, ⟨0, .phase⟩, ⟨1, .phase⟩, ⟨2, .phase⟩, ⟨3, .phase⟩, ⟨4, .phase⟩, ⟨5, .phase⟩, ⟨6, .phase⟩, ⟨7, .phase⟩, ⟨8, .phase⟩, ⟨9, .phase⟩, ⟨10, .phase⟩, ⟨11, .phase⟩, ⟨12, .phase⟩], none⟩ ?_ (.inl ⟨by rfl, ?_⟩) hS ?_
  rotate_left
  · (intro w hSw; (try dsimp only at hSw); go_simp; (try with_reducible rfl))
  try simp only [Act.put, sb, s0, sz]
  refine wpAnyH_done (by kernel_rfl) ?_ _
  go_wp2
  go_ret2
  exact ⟨_, rfl, ao, c, rfl, (hE7.erase 1).erase 1⟩
end Go.Proofs.YtdpfigkjkjjedaaDoor
namespace Go.Proofs.YtdpfigkjkjjedaaDoor
open Go.RowKit Go.SL

structure Rec where
  hs : List UInt8
  data : List UInt8
/-- a record that may be put -/
def Rec.ok (r : Rec) : Prop := r.hs.length = 32 ∧ r.data.length ≤ 2014
/-- the bytes of records in a row -/
def recB (rs : List Rec) : List UInt8 := rs.flatMap fun r => rcP r.hs r.data
theorem recB_nil : recB [] = [] := rfl
theorem recB_cons (r : Rec) (rs : List Rec) : recB (r :: rs) = rcP r.hs r.data ++ recB rs := rfl
theorem recB_app (a b : List Rec) : recB (a ++ b) = recB a ++ recB b := by simp [recB, List.flatMap_append]
theorem recB_pos {r : Rec} (h : r.ok) (rs : List Rec) : 34 ≤ (recB (r :: rs)).length := by
  rw [recB_cons, List.length_append, rcP_len h.1]; omega
/-- what is read of a record, and what is left behind it -/
theorem rec_read {r : Rec} (h : r.ok) (rest : List UInt8) :
    hxV ⟨rcP r.hs r.data ++ rest, 0⟩ = r.hs ∧ tx 32 ⟨rcP r.hs r.data ++ rest, 0⟩ = ⟨be 2 r.data.length ++ (r.data ++ rest), 0⟩ ∧
    tkV 2 ⟨be 2 r.data.length ++ (r.data ++ rest), 0⟩ = r.data.length ∧ tk 2 ⟨be 2 r.data.length ++ (r.data ++ rest), 0⟩ = ⟨r.data ++ rest, 0⟩ ∧
    txV r.data.length ⟨r.data ++ rest, 0⟩ = r.data ∧ tx r.data.length ⟨r.data ++ rest, 0⟩ = ⟨rest, 0⟩ := by
  obtain ⟨h1, h2⟩ := h
  obtain ⟨a1, a2⟩ := hx_app r.hs (be 2 r.data.length ++ (r.data ++ rest)) h1
  obtain ⟨b1, b2⟩ := tk2_app r.data.length (r.data ++ rest) (by omega)
  obtain ⟨c1, c2⟩ := tx_app r.data rest
  have e : rcP r.hs r.data ++ rest = r.hs ++ (be 2 r.data.length ++ (r.data ++ rest)) := by simp only [rcP, List.append_assoc]
  rw [e]
  exact ⟨a2, a1, b2, b1, c2, c1⟩
/-- records with the places where they begin -/
def offs : Nat → List Rec → List (Nat × Rec)
  | _, [] => []
  | n, r :: rs => (n, r) :: offs (n + (34 + r.data.length)) rs
theorem offs_len (n : Nat) (rs : List Rec) : (offs n rs).length = rs.length := by
  induction rs generalizing n with
  | nil => rfl
  | cons r rs ih => simp [offs, ih]
theorem offs_app {a : List Rec} (h : ∀ r ∈ a, r.ok) (n : Nat) (b : List Rec) : offs n (a ++ b) = offs n a ++ offs (n + (recB a).length) b := by
  induction a generalizing n with
  | nil => simp [offs, recB_nil]
  | cons r a ih =>
    have hr := h r (by simp)
    rw [List.cons_append, offs, offs, ih (fun x hx => h x (by simp [hx])), recB_cons, List.length_append, rcP_len hr.1, List.cons_append]
    simp only [Nat.add_assoc]
/-- 32 bytes -/
def f32 (l : List UInt8) : List UInt8 := if l.length = 32 then l else List.replicate 32 0
theorem f32_len (l : List UInt8) : (f32 l).length = 32 := by unfold f32; split <;> simp_all
theorem f32_eq {l : List UInt8} (h : l.length = 32) : f32 l = l := if_pos h
/-- a record's cells, as the program has it -/
def rcells (x : Nat × Rec) : List Value := .int .i64 x.1 :: (bvals (f32 x.2.hs) ++ [.string ⟨x.2.data.toArray⟩])
def recV (x : Nat × Rec) : Value := .agg (rcells x).toArray
theorem rcells_len (x : Nat × Rec) : (rcells x).length = 34 := by simp [rcells, bvals_length, f32_len]
theorem rcells_one (x : Nat × Rec) : ∀ u ∈ rcells x, u.oneCell' = true := by
  intro u hu
  simp only [rcells, List.mem_cons, List.mem_append, List.not_mem_nil, or_false] at hu
  rcases hu with rfl | hu | rfl
  · rfl
  · exact bvals_one _ u hu
  · rfl
theorem rcells_set (n : Nat) (hs a b : List UInt8) : (rcells (n, ⟨hs, a⟩)).set 33 (.string ⟨b.toArray⟩) = rcells (n, ⟨hs, b⟩) := by
  have hl : (bvals (f32 hs)).length = 32 := by rw [bvals_length, f32_len]
  simp only [rcells, List.set_cons_succ, show (33 : Nat) = 32 + 1 from rfl]
  congr 1
  rw [List.set_append_right _ _ (by omega), hl]
  rfl
end Go.Proofs.YtdpfigkjkjjedaaDoor
namespace Go.Proofs.YtdpfigkjkjjedaaDoor
open Go.RowKit Go.SL

theorem walk_any (o : Nat) {l : List HProp} {w : World} (hE : Ent l w) :
    Calls Tryd.prog 65 #[.pointer (some ⟨o, 0, none⟩)] w (Ret fun v w' => ∃ b, v = .func (.func 106) #[] #[.pointer (some ⟨b, 0, none⟩)] ∧ Ent (pt b (.cells #[.pointer (some ⟨o, 0, none⟩)] 113) :: l) w') := by
  go_enter Tryd.func65, Tryd.ntmps65
  go_wp2_with (first
    | go_skip
    | ((with_reducible (show Go.wpList _ _ _ (Go.Oper.mk _ (.box _ (.tmp 0)) _ _ _ _ :: _) _ _)); refine wpl_box hE rfl rfl rfl ?_; clear hE; intro b0 w hE1))
  go_ret
  exact ⟨_, rfl, b0, rfl, hE1⟩
/-- the iterator's own heap: the opener, and what is left in it -/
def walkSt (b o : Nat) (rest : List UInt8) : List HProp := [pt b (.cells #[.pointer (some ⟨o, 0, none⟩)] 113), opener o rest 0]
end Go.Proofs.YtdpfigkjkjjedaaDoor
namespace Go.SL
open Go.RowKit
section
variable {P : Program}
/-- as SeqSL, with what lies there at the start (st is what lies there while an element is given) and at the end -/
def SeqSLe {α : Type} (P : Program) (gf : Nat) (lb : Array Value) (encs : α → Array Value) (xs : List α) (st : List α → List HProp) (ini en : List HProp) : Prop :=
  ∀ (lp : Nat) (J Jx : List α → List HProp) (W : World), Ent (ini ++ J []) W →
    (∀ pre x W1, pre ++ [x] <+: xs → Ent (st pre ++ J pre) W1 → YieldAt Fence.wide 0 P lp (encs x) W1 fun e W' =>
      (e = .returned (.bool true) ∧ Ent (st pre ++ J (pre ++ [x])) W') ∨ (e = .returned (.bool false) ∧ Ent (Jx (pre ++ [x])) W')) →
    CallsIn Fence.wide 0 P gf (#[.func (.yield lp) #[] #[]] ++ lb) W fun e W' => (∃ v, e = .returned v) ∧ (Ent (en ++ J xs) W' ∨ ∃ pre, pre <+: xs ∧ Ent (Jx pre) W')
theorem wpIn_rangeSLBe {α β : Type} {g : Operand} {ps : Array Tmp} {assign body : Code} {Q : Exit → Act → World → Prop} {a : Act} {w : World} {gf : Nat} {lb : Array Value}
    (hg : a.eval g = .func (.func gf) #[] lb) (eg : ∀ args w, (callFunc gf args).run P w = .ok (.enter gf args) w)
    {encs : α → Array Value} {xs : List α} {st : List α → List HProp} {ini en : List HProp} (hseq : SeqSLe P gf lb encs xs st ini en) (hps : ∀ x, (encs x).size = ps.size)
    (I : List α → List HProp) (Ix : Code → List α → List HProp) (hE : Ent (ini ++ I []) w) (a₁ : α → β → Act) (B : α → β → List HProp)
    (hassign : ∀ (lp : Nat) (x : α) (W : World) (L : List HProp) (K : Act → World → Prop), Ent L W → (∀ y W', Ent (B x y ++ L) W' → K (a₁ x y) W') →
      assign.wpIn (Fence.wide.inRound lp) 0 P (Exit.then K (fun _ _ _ => False)) { tmps := (ps.zip (encs x)).foldl (fun t (p, v) => t.setIfInBounds p v) a.tmps, defers := [] } W)
    (hbody : ∀ (lp : Nat) (pre : List α) (x : α) (y : β) (W : World) (L : List HProp), pre ++ [x] <+: xs → Ent (B x y ++ (I pre ++ L)) W → body.wpIn (Fence.wide.inRound lp) 0 P (roundSL I Ix L (pre ++ [x])) (a₁ x y) W)
    (hdone : ∀ (D : Nat) (W : World), Ent (pt D (.deferred (some [])) :: (en ++ I xs)) W → Q .normal { a with defers := { target := .collected D, args := #[] } :: a.defers } W)
    (hstop : ∀ (D : Nat) (c : Code) (pre : List α) (W : World), pre <+: xs → Ent (pt D (.deferred (some [])) :: Ix c pre) W → c.wpIn Fence.wide 0 P Q { a with defers := { target := .collected D, args := #[] } :: a.defers } W) :
    (Code.rangeFunc g ps assign body).wpIn Fence.wide 0 P Q a w := by
  refine wpIn_rangeFunc ?_
  intro fn hfn
  obtain ⟨d, hd⟩ : ∃ d, d = w.heap.size := ⟨_, rfl⟩
  obtain ⟨rc, hrc⟩ : ∃ rc : LoopState → Option Code → Loop, rc = fun s p => { state := s, pending := p, fn, tmps := a.tmps, params := ps, assign, body, defers := d } := ⟨_, rfl⟩
  have h1 : Ent (pt (d + 1) (.loop (rc .ready none)) :: pt d (.deferred (some [])) :: (ini ++ I [])) ((w.alloc (.deferred (some []))).alloc (.loop (rc .ready none))) := by
    have := (hE.alloc (.deferred (some []))).alloc (.loop (rc .ready none))
    rwa [World.size_alloc, ← hd] at this
  generalize hW1 : (w.alloc (.deferred (some []))).alloc (.loop (rc .ready none)) = W1 at h1
  refine ⟨d + 1, [{ target := .collected d, args := #[] }], W1, { target := .fn (.func gf) lb, args := #[.func (.yield (d + 1)) #[] #[]] }, W1, gf, #[.func (.yield (d + 1)) #[] #[]] ++ lb, W1, ?_, ?_, fun _ _ => trivial, ?_, fun h => (by cases h), ?_⟩
  · rw [← hW1, hrc, hd]; exact run_enterLoop_outer _ _ _ _ _
  · simp only [resolve, hg]
    simp [go_sem]
  · simp [invoke, go_sem, eg]
  · refine (hseq (d + 1) (fun pre => I pre ++ [pt (d + 1) (.loop (rc .ready none)), pt d (.deferred (some []))]) (fun pre => [ex fun c => Ix c pre ++ [pt (d + 1) (.loop (rc .done (some c))), pt d (.deferred (some []))]]) W1 (h1.perm perm_2') ?_).mono ?_
    · rintro pre x W hpre hW
      replace hW := hW.perm perm_2
      have hy := run_yield (P := P) (args := encs x) hW.head (by rw [hrc]; exact hps x)
      rw [hrc] at hy
      refine ⟨fn, _, assign, body, hy, roundIn_of_wpIn trivial (hassign _ x W _ _ hW fun y W' hW' => ?_)⟩
      clear hy
      replace hW := hW'.perm List.perm_middle
      clear hW'
      refine ⟨_, run_beginRound hW.head (by rw [hrc]), ?_⟩
      have hb : Ent (pt (d + 1) (.loop { rc .ready none with state := .busy }) :: (B x y ++ (pt d (.deferred (some [])) :: (st pre ++ I pre)))) (W'.putObj (d + 1) (.loop { rc .ready none with state := .busy })) := hW.setMap 0 rfl
      replace hb := hb.perm (List.perm_middle (l₁ := B x y)).symm
      refine wpIn_mono (hbody _ pre x y _ (pt (d + 1) (.loop { rc .ready none with state := .busy }) :: pt d (.deferred (some [])) :: st pre) hpre (hb.perm (perm_3.symm.append_left _))) ?_
      rintro e a3 W3 hp
      cases e with
      | normal =>
        have h3 : Ent _ W3 := Ent.perm hp perm_3
        refine ⟨_, _, run_endRound none h3.head, .inl ⟨rfl, ?_⟩⟩
        have h4 := h3.setMap 0 (ob' := .loop { { rc .ready none with state := .busy } with state := if (none : Option Code).isNone then .ready else .done, pending := none }) rfl
        rw [hrc] at h4 ⊢
        exact Ent.perm h4 perm_2'
      | ret =>
        have h3 : Ent _ W3 := (Ent.perm hp perm_3)
        refine ⟨_, _, run_endRound (some .ret) h3.head, .inr ⟨rfl, ?_⟩⟩
        have h4 := h3.setMap 0 (ob' := .loop { { rc .ready none with state := .busy } with state := if (some Code.ret).isNone then .ready else .done, pending := some .ret }) rfl
        rw [hrc] at h4 ⊢
        exact Ent.pack (l := []) Code.ret (by rw [List.append_nil]; exact (Ent.perm h4 perm_2').drop)
      | exit id =>
        have h3 : Ent _ W3 := (Ent.perm hp perm_3)
        refine ⟨_, _, run_endRound (some (.exit id)) h3.head, .inr ⟨rfl, ?_⟩⟩
        have h4 := h3.setMap 0 (ob' := .loop { { rc .ready none with state := .busy } with state := if (some (Code.exit id)).isNone then .ready else .done, pending := some (.exit id) }) rfl
        rw [hrc] at h4 ⊢
        exact Ent.pack (l := []) (Code.exit id) (by rw [List.append_nil]; exact (Ent.perm h4 perm_2').drop)
      | goto t => exact hp.elim
      | panic ch => exact hp.elim
      | outgrown => exact hp.elim
    · rintro e W2 ⟨⟨v, rfl⟩, hJ | ⟨pre, hpre, hJ⟩⟩
      · have h3 := Ent.perm hJ (perm_2 (l := en))
        refine ⟨none, _, by have := run_endLoop (P := P) h3.head (by rw [hrc]; simp); rw [hrc] at this; exact this, ?_⟩
        have h4 := h3.setMap 0 (ob' := .loop { rc .ready none with state := .exhausted }) rfl
        rw [hrc] at h4
        exact hdone d _ h4.tail
      · obtain ⟨c, hJ⟩ := hJ.unpack
        rw [List.append_nil] at hJ
        have h3 := Ent.perm hJ (perm_2 (l := []))
        refine ⟨some c, _, by have := run_endLoop (P := P) h3.head (by rw [hrc]; simp); rw [hrc] at this; exact this, ?_⟩
        have h4 := h3.setMap 0 (ob' := .loop { rc .done (some c) with state := .exhausted }) rfl
        rw [hrc] at h4
        exact hstop d c pre _ hpre h4.tail
end
end Go.SL
namespace Go.Proofs.YtdpfigkjkjjedaaDoor
open Go.RowKit Go.SL

attribute [local go_sem] Oper.semAt_some wide_fn wide_depth
theorem offs_pre {a b l : List Rec} (h : ∀ r ∈ a, r.ok) (r : Rec) (hl : a ++ r :: b = l) : offs 0 a ++ [((recB a).length, r)] <+: offs 0 l := by
  rw [← hl, offs_app h, Nat.zero_add, offs]
  exact (List.prefix_append_right_inj _).2 (by simp)
theorem list32 {α : Type} {l : List α} (h : l.length = 32) : ∃ x0 x1 x2 x3 x4 x5 x6 x7 x8 x9 x10 x11 x12 x13 x14 x15 x16 x17 x18 x19 x20 x21 x22 x23 x24 x25 x26 x27 x28 x29 x30 x31, l = [x0, x1, x2, x3, x4, x5, x6, x7, x8, x9, x10, x11, x12, x13, x14, x15, x16, x17, x18, x19, x20, x21, x22, x23, x24, x25, x26, x27, x28, x29, x30, x31] := by
  match l, h with
  | [x0, x1, x2, x3, x4, x5, x6, x7, x8, x9, x10, x11, x12, x13, x14, x15, x16, x17, x18, x19, x20, x21, x22, x23, x24, x25, x26, x27, x28, x29, x30, x31], _ => exact ⟨x0, x1, x2, x3, x4, x5, x6, x7, x8, x9, x10, x11, x12, x13, x14, x15, x16, x17, x18, x19, x20, x21, x22, x23, x24, x25, x26, x27, x28, x29, x30, x31, rfl⟩
theorem built_rec2 {hs : List UInt8} (h32 : hs.length = 32) (n : Int) : Tryd.prog.built 71 [(0, .int .i64 n), (1, .agg (bvals hs).toArray)] = some (.int .i64 n :: (bvals hs ++ [.string ⟨#[]⟩])).toArray := by
  obtain ⟨x0, x1, x2, x3, x4, x5, x6, x7, x8, x9, x10, x11, x12, x13, x14, x15, x16, x17, x18, x19, x20, x21, x22, x23, x24, x25, x26, x27, x28, x29, x30, x31, rfl⟩ := list32 h32
  kernel_rfl
theorem run_built_rec2 {hs : List UInt8} (h32 : hs.length = 32) (n : Nat) (w : World) : (Instr.build 71 #[(0, .int .i64 n), (1, .agg (bvals hs).toArray)]).run Tryd.prog w = .ok (.agg (rcells (n, ⟨hs, []⟩)).toArray) w :=
  run_build w 71 _ _ ((built_rec2 h32 n).trans (by rw [rcells, f32_eq h32]))
/-- what is left of the bytes while the record behind so many is given -/
def recSt (b o : Nat) (rs : List Rec) (pre : List (Nat × Rec)) : List HProp := walkSt b o (recB (rs.drop (pre.length + 1)))
/-- how much is left in an opener -/
def oLeft (o : Nat) (w : World) : Nat := match w.cell? ⟨o, 0, none⟩ with
  | some (.slice _ n _) => n
  | _ => 0
theorem oLeft_eq {b o : Nat} {bs : List UInt8} {l : List HProp} {w : World} (h : Ent (walkSt b o bs ++ l) w) : oLeft o w = bs.length := by
  obtain ⟨ao, c, _, hE⟩ := opener_open (Ent.front h 1 rfl)
  have hc := hE.cell 0 rfl 0
  unfold oLeft
  rw [hc]
  rfl
set_option maxRecDepth 100000 in
set_option maxHeartbeats 4000000 in
attribute [-go_sem] Instr.loadAt Instr.build in
theorem walk_iter {rs : List Rec} (hok : ∀ r ∈ rs, r.ok) (hlen : (recB rs).length ≤ 1000000) (b o : Nat) :
    SeqSLe Tryd.prog 106 #[.pointer (some ⟨b, 0, none⟩)] (fun x : Nat × Rec => #[recV x]) (offs 0 rs) (recSt b o rs) (walkSt b o (recB rs)) (walkSt b o []) := by
  intro lp J Jx W hW hY
  have c0 : ∀ {m : List HProp} {rest : List UInt8} {w : World}, Ent (walkSt b o rest ++ m) w → (Instr.loadAt 113 (.pointer (some ⟨b, 0, none⟩))).run Tryd.prog w = .ok (.pointer (some ⟨o, 0, none⟩)) w := fun h => run_load1 h 0 rfl (by simp [go_sem]) rfl
  have hc := c0 hW
  have HL := Left_any (Ent.front hW 1 rfl)
  refine callsIn_of_wp Tryd.func106 rfl trivial ?_ rfl
  simp only [Tryd.ntmps106, List.size_toArray, List.length_cons, List.length_nil, Nat.reduceAdd, Nat.reduceSub, Array.replicate_succ, Array.replicate_zero, List.push_toArray, List.append_toArray, List.nil_append, List.cons_append]
  gi_wp2_with (gi_at_call 107; refine (callsIn_wide.2 HL).mono ?_; rintro e w' ⟨rfl, rfl⟩)
  clear HL hc
  -- the loop: k records are given, the opener stands behind them
  gi_loopw [] (fun wr => ∃ k, k ≤ rs.length ∧ Ent (walkSt b o (recB (rs.drop k)) ++ J ((offs 0 rs).take k)) wr) (fun wr => oLeft o wr)
  case atStart => exact ⟨0, by omega, hW⟩
  case round =>
    obtain ⟨k, hk, hE⟩ := hrel
    have hc := c0 hE
    have HL := Left_any (Ent.front hE 1 rfl)
    by_cases hlt : k < rs.length
    · have hr := hok _ (List.getElem_mem hlt)
      have hdk : rs.drop k = rs[k] :: rs.drop (k + 1) := List.drop_eq_getElem_cons hlt
      have Hst := SL.hid (show recSt b o rs ((offs 0 rs).take k) = walkSt b o (recB (rs.drop (k + 1))) by
        rw [recSt, List.length_take, offs_len, Nat.min_eq_left hk])
      have htk : ∀ r ∈ rs.take k, r.ok := fun r h => hok r (List.mem_of_mem_take h)
      have htd : rs.take k ++ rs[k] :: rs.drop (k + 1) = rs := by rw [← hdk, List.take_append_drop]
      have hto : (offs 0 rs).take k = offs 0 (rs.take k) := by
        conv => lhs; rw [← List.take_append_drop k rs, offs_app htk]
        rw [List.take_left' (by rw [offs_len, List.length_take]; omega)]
      have htp : (offs 0 rs).take (k + 1) = (offs 0 rs).take k ++ [((recB (rs.take k)).length, rs[k])] := by
        rw [hto]
        conv => lhs; rw [← htd, offs_app htk, Nat.zero_add, offs]
        rw [List.take_append, offs_len, List.length_take, Nat.min_eq_left hk, List.take_of_length_le (by rw [offs_len, List.length_take]; omega), show k + 1 - k = 1 by omega]
        rfl
      have hpre := offs_pre htk rs[k] htd
      rw [← hto] at hpre
      have hsum : (recB rs).length = (recB (rs.take k)).length + (recB (rs.drop k)).length := by
        conv => lhs; rw [← List.take_append_drop k rs, recB_app]
        rw [List.length_append]
      have hpos : 0 < (recB (rs.drop k)).length := by
        have := recB_pos hr (rs.drop (k + 1))
        rw [hdk]
        omega
      have hYk : ∀ W1, Ent (walkSt b o (recB (rs.drop (k + 1))) ++ J ((offs 0 rs).take k)) W1 → YieldAt Fence.wide 0 Tryd.prog lp #[recV ((recB (rs.take k)).length, rs[k])] W1 fun e W' =>
          (e = .returned (.bool true) ∧ Ent (walkSt b o (recB (rs.drop (k + 1))) ++ J ((offs 0 rs).take (k + 1))) W') ∨ (e = .returned (.bool false) ∧ Ent (Jx ((offs 0 rs).take k ++ [((recB (rs.take k)).length, rs[k])])) W') := fun W1 h1 => by
        have h := hY _ _ W1 hpre (by rw [Hst.out]; exact h1)
        rw [Hst.out, ← htp] at h
        rw [← htp]
        exact h
      have Hend := SL.hid hpre
      obtain ⟨q1, q2, q3, q4, q5, q6⟩ := rec_read hr (recB (rs.drop (k + 1)))
      have hbs : recB (rs.drop k) = rcP rs[k].hs rs[k].data ++ recB (rs.drop (k + 1)) := by rw [hdk, recB_cons]
      rw [← hbs] at q1 q2
      have h32 := hr.1
      have h2014 := hr.2
      have hln : (recB (rs.drop (k + 1))).length < (recB (rs.drop k)).length := by rw [hbs, List.length_append, rcP_len h32]; omega
      have hl1 : (be 2 rs[k].data.length ++ (rs[k].data ++ recB (rs.drop (k + 1)))).length ≤ 1000000 := by
        have : (recB (rs.drop k)).length = 34 + rs[k].data.length + (recB (rs.drop (k + 1))).length := by rw [hbs, List.length_append, rcP_len h32]
        simp only [List.length_append, be_length]; omega
      have hl2 : (rs[k].data ++ recB (rs.drop (k + 1))).length ≤ 1000000 := by
        simp only [List.length_append, be_length] at hl1 ⊢; omega
      have HH : ∀ {l : List HProp} {w : World}, Ent (opener o (recB (rs.drop k)) 0 :: l) w → Calls Tryd.prog 108 #[.pointer (some ⟨o, 0, none⟩)] w (Ret fun v w' => v = .agg (bvals rs[k].hs).toArray ∧ Ent (opener o (be 2 rs[k].data.length ++ (rs[k].data ++ recB (rs.drop (k + 1)))) 0 :: l) w') := fun h => by
        have h := sHash (s := ⟨recB (rs.drop k), 0⟩) h
        rw [q1, q2] at h
        exact h
      have HT : ∀ {l : List HProp} {w : World}, Ent (opener o (be 2 rs[k].data.length ++ (rs[k].data ++ recB (rs.drop (k + 1)))) 0 :: l) w → Calls Tryd.prog 53 #[.pointer (some ⟨o, 0, none⟩), .int .i64 2] w (Ret fun v w' => v = .int .u64 rs[k].data.length ∧ Ent (opener o (rs[k].data ++ recB (rs.drop (k + 1))) 0 :: l) w') := fun h => by
        have h := sTake (s := ⟨be 2 rs[k].data.length ++ (rs[k].data ++ recB (rs.drop (k + 1))), 0⟩) h (Nat.le_trans hl1 (by omega)) 2
        rw [q3, q4] at h
        exact h
      have HX : ∀ {l : List HProp} {w : World}, Ent (opener o (rs[k].data ++ recB (rs.drop (k + 1))) 0 :: l) w → Calls Tryd.prog 54 #[.pointer (some ⟨o, 0, none⟩), .int .i64 rs[k].data.length] w (Ret fun v w' => v = .string ⟨rs[k].data.toArray⟩ ∧ Ent (opener o (recB (rs.drop (k + 1))) 0 :: l) w') := fun h => by
        have h := sText (s := ⟨rs[k].data ++ recB (rs.drop (k + 1)), 0⟩) h (Nat.le_trans hl2 (by omega)) rs[k].data.length
        rw [q5, q6] at h
        exact h
      have hb := run_built_rec2 h32 (recB (rs.take k)).length
      have Hset := SL.hid (rcells_set (recB (rs.take k)).length rs[k].hs [] rs[k].data)
      have Hl0 := SL.hid (rcells_len ((recB (rs.take k)).length, ⟨rs[k].hs, []⟩))
      have Hc33 := SL.hid (show (rcells ((recB (rs.take k)).length, ⟨rs[k].hs, []⟩)).toArray[33]? = some (.string ⟨#[]⟩) by simp [rcells, List.getElem?_append, bvals_length, f32_len])
      have Hl1 := SL.hid (rcells_len ((recB (rs.take k)).length, ⟨rs[k].hs, rs[k].data⟩))
      have Ho0 := SL.hid (rcells_one ((recB (rs.take k)).length, ⟨rs[k].hs, []⟩))
      have hat : IntKind.i64.wrap (((recB rs).length : Int) - ((recB (rs.drop k)).length : Int)) = (((recB (rs.take k)).length : Nat) : Int) := by
        rw [wrap_id (by omega)]; omega
      have hgt : 0 < (recB (rs.drop k)).length := by omega
      have hwn : IntKind.i64.wrap ((rs[k].data.length : Nat) : Int) = ((rs[k].data.length : Nat) : Int) := wrap_id (by omega)
      have hgn : decide ((2014 : Int) < ((rs[k].data.length : Nat) : Int)) = false := decide_eq_false (by omega)
      have Hln := SL.hid hln
      have Hmx := SL.hid (show k + 1 ≤ rs.length from hlt)
      simp only [recV] at hYk
      clear hY q1 q2 q3 q4 q5 q6 hpos hsum htp hto htd htk hdk Hst hbs hl1 hl2 hln hpre h2014 hr
      rw [show rs[k] = ⟨rs[k].hs, rs[k].data⟩ from rfl] at hYk Hend
      generalize rs[k].hs = hs at *
      generalize rs[k].data = data at *
      generalize (recB rs).length = all at *
      generalize (recB (rs.take k)).length = at_ at *
      generalize hrest : recB (rs.drop (k + 1)) = rest at *
      have Hrest := SL.hid hrest
      generalize be 2 data.length ++ (data ++ rest) = b1 at *
      generalize data ++ rest = b2 at *
      generalize hcur : recB (rs.drop k) = cur at *
      generalize rcells (at_, ⟨hs, []⟩) = rc0 at *
      generalize rcells (at_, ⟨hs, data⟩) = rc1 at *
      generalize data.length = n at *
      have hcl : ∀ {w w' : World}, w = w' → w' = w := fun h => h.symm
      clear hcl hrest hcur
      have Hend2 := SL.hid (show ∀ W', Ent (Jx ((offs 0 rs).take k ++ [(at_, ⟨hs, data⟩)])) W' → ∃ pre, pre <+: offs 0 rs ∧ Ent (Jx pre) W' from fun W' h => ⟨_, Hend.out, h⟩)
      clear Hend
      generalize Jx ((offs 0 rs).take k ++ [(at_, ⟨hs, data⟩)]) = JX at *
      generalize hJ1 : J ((offs 0 rs).take (k + 1)) = JN at *
      have HJ1 := SL.hid hJ1
      generalize hJ0 : J ((offs 0 rs).take k) = JK at *
      clear hJ1 hJ0
      have HO := SL.hid (oLeft_eq hE)
      gi_wp2_with (gi_at_call 107; refine (callsIn_wide.2 HL).mono ?_; rintro e w' ⟨rfl, rfl⟩)
      clear HL
      have hD : Ent (pt b (.cells #[.pointer (some ⟨o, 0, none⟩)] 113) :: opener o cur 0 :: JK) wr.drew := hE.drew
      refine wpIn_region_held_drew (S := (fun w' => ((Instr.loadAt 113 (.pointer (some ⟨b, 0, none⟩))).run Tryd.prog w' = .ok (.pointer (some ⟨o, 0, none⟩)) w'))) rfl rfl rfl (by kernel_rfl) (by kernel_rfl) (atVm hD (by repeat (first | exact List.Mem.head _ | refine List.Mem.tail _ ?_)) (by simp [go_sem]) rfl) (fun hS => ?_)
      refine takeW 0 ⟨some 11, .move (.tmp 3), 3, "record.go:46", #[], none⟩ ?_ (.inl ⟨by rfl, ?_⟩) hS ?_
      rotate_left
      · (intro w hSw; (try dsimp only at hSw); go_simp; (try with_reducible rfl))
      try simp only [Act.put, sb, s0, sz]
      refine takeW 1 ⟨some 12, .load 113 (.tmp 1), 113, "record.go:46", #[], none⟩ ?_ (.inl ⟨by rfl, ?_⟩) hS ?_
      rotate_left
      · (intro w hSw; (try dsimp only at hSw); go_simp; (try with_reducible rfl))
      try simp only [Act.put, sb, s0, sz]
      refine takeW 4 ⟨some 15, .load 113 (.tmp 1), 113, "record.go:46", #[], none⟩ ?_ (.inl ⟨by rfl, ?_⟩) hS ?_
      rotate_left
      · (intro w hSw; (try dsimp only at hSw); go_simp; (try with_reducible rfl))
      try simp only [Act.put, sb, s0, sz]
      refine wpAnyH_ready (rs := [2, 7]) (by kernel_rfl) (by simp) ?_
      refine (AllReadyH.cons (o := { dst := some 13, op := Go.Op.call { callee := Go.Callee.value (Go.Operand.func 107), args := #[Go.Operand.tmp 12], argTypes := #[113] }, type := 3, pos := "record.go:46", after := #[{ on := 1, ground := Go.Ground.data }], guard := none }) rfl (fun K hK => ?_) (AllReadyH.cons (o := { dst := some 4, op := Go.Op.alloc 71, type := 0, pos := "record.go:46", after := #[], guard := none }) rfl (fun K hK => ?_) AllReadyH.nil))
      focus
        (go_simp; (first | refine (Left_any (hA.front 2 rfl)).mono ?_ | refine (Left_any (hD.front 1 rfl)).mono ?_); rintro e w2 ⟨rfl, rfl⟩)
        refine hK.out _ _ (by first | exact (atVm hA (by repeat (first | exact List.Mem.head _ | refine List.Mem.tail _ ?_)) (by simp [go_sem]) rfl) | exact (atVm hD (by repeat (first | exact List.Mem.head _ | refine List.Mem.tail _ ?_)) (by simp [go_sem]) rfl)) (fun hS => ?_)
        clear hK K
        try simp only [Act.put, sb, s0, sz]
        refine takeW 3 ⟨some 14, .binOp .sub 3 (.tmp 11) (.tmp 13) 3, 3, "record.go:46", #[⟨0, .data⟩, ⟨2, .data⟩], none⟩ ?_ (.inl ⟨by rfl, ?_⟩) hS ?_
        rotate_left
        · (intro w hSw; (try dsimp only at hSw); go_simp; (try with_reducible rfl))
        try simp only [Act.put, sb, s0, sz]
        refine wpAnyH_ready (rs := [5, 7]) (by kernel_rfl) (by simp) ?_
        refine (AllReadyH.cons (o := { dst := some 16, op := Go.Op.call { callee := Go.Callee.value (Go.Operand.func 108), args := #[Go.Operand.tmp 15], argTypes := #[113] }, type := 66, pos := "record.go:46", after := #[{ on := 4, ground := Go.Ground.data }, { on := 2, ground := Go.Ground.chain }], guard := none }) rfl (fun K hK => ?_) (AllReadyH.cons (o := { dst := some 4, op := Go.Op.alloc 71, type := 0, pos := "record.go:46", after := #[], guard := none }) rfl (fun K hK => ?_) AllReadyH.nil))
        focus
          (go_simp; (first | refine (HH (hA.front 2 rfl)).mono ?_ | refine (HH (hD.front 1 rfl)).mono ?_); rintro e w3 ⟨v, rfl, rfl, hH⟩; simp only [List.eraseIdx_cons_succ, List.eraseIdx_cons_zero] at hH)
          refine hK.out _ _ (atVm hH (by repeat (first | exact List.Mem.head _ | refine List.Mem.tail _ ?_)) (by simp [go_sem]) rfl) (fun hS => ?_)
          clear hK K
          try simp only [Act.put, sb, s0, sz]
          refine takeW 6 ⟨some 17, .build 71 #[(0, .tmp 14), (1, .tmp 16)], 71, "record.go:46", #[⟨3, .data⟩, ⟨5, .data⟩], none⟩ ?_ (.inl ⟨by rfl, ?_⟩) hS ?_
          rotate_left
          · (intro w hSw; (try dsimp only at hSw); go_simp; (try with_reducible rfl))
          try simp only [Act.put, sb, s0, sz]
          refine wpAnyH_ready (rs := [7]) (by kernel_rfl) (by simp) ?_
          refine (AllReadyH.cons (o := { dst := some 4, op := Go.Op.alloc 71, type := 0, pos := "record.go:46", after := #[], guard := none }) rfl (fun K hK => ?_) AllReadyH.nil)
          (go_simp; (first | have hA := hH.alloc (.cells #[.int .i64 0, .int .u8 0, .int .u8 0, .int .u8 0, .int .u8 0, .int .u8 0, .int .u8 0, .int .u8 0, .int .u8 0, .int .u8 0, .int .u8 0, .int .u8 0, .int .u8 0, .int .u8 0, .int .u8 0, .int .u8 0, .int .u8 0, .int .u8 0, .int .u8 0, .int .u8 0, .int .u8 0, .int .u8 0, .int .u8 0, .int .u8 0, .int .u8 0, .int .u8 0, .int .u8 0, .int .u8 0, .int .u8 0, .int .u8 0, .int .u8 0, .int .u8 0, .int .u8 0, .string ⟨#[]⟩] 71) | have hA := hD.alloc (.cells #[.int .i64 0, .int .u8 0, .int .u8 0, .int .u8 0, .int .u8 0, .int .u8 0, .int .u8 0, .int .u8 0, .int .u8 0, .int .u8 0, .int .u8 0, .int .u8 0, .int .u8 0, .int .u8 0, .int .u8 0, .int .u8 0, .int .u8 0, .int .u8 0, .int .u8 0, .int .u8 0, .int .u8 0, .int .u8 0, .int .u8 0, .int .u8 0, .int .u8 0, .int .u8 0, .int .u8 0, .int .u8 0, .int .u8 0, .int .u8 0, .int .u8 0, .int .u8 0, .int .u8 0, .string ⟨#[]⟩] 71)))
          refine hK.out _ _ (atVm hA (by repeat (first | exact List.Mem.head _ | refine List.Mem.tail _ ?_)) (by simp [go_sem]) rfl) (fun hS => ?_)
          clear hK K
          try simp only [Act.put, sb, s0, sz]
          refine wpAnyH_ready (rs := [8]) (by kernel_rfl) (by simp) ?_
          refine (AllReadyH.cons (o := { dst := none, op := Go.Op.store 71 (Go.Operand.tmp 4) (Go.Operand.tmp 17), type := 0, pos := "record.go:46", after := #[{ on := 7, ground := Go.Ground.data }, { on := 6, ground := Go.Ground.data }, { on := 5, ground := Go.Ground.chain }, { on := 0, ground := Go.Ground.phase }, { on := 1, ground := Go.Ground.phase }, { on := 2, ground := Go.Ground.phase }, { on := 3, ground := Go.Ground.phase }, { on := 4, ground := Go.Ground.phase }, { on := 5, ground := Go.Ground.phase }, { on := 6, ground := Go.Ground.phase }, { on := 7, ground := Go.Ground.phase }], guard := none }) rfl (fun K hK => ?_) AllReadyH.nil)
          ((first | refine step_storeW hA 0 rfl (by rfl) (by rfl) (by rfl) (xs := rc0) (by rfl) Tryd.sizeOf71 Hl0.out Ho0.out rfl ?_ | refine step_storeW hH 1 rfl (by rfl) (by rfl) (by rfl) (xs := rc0) (by rfl) Tryd.sizeOf71 Hl0.out Ho0.out rfl ?_); intro w6 hEs; simp only [List.set_cons_zero, List.set_cons_succ] at hEs)
          refine hK.out _ _ (atVm hEs (by repeat (first | exact List.Mem.head _ | refine List.Mem.tail _ ?_)) (by simp [go_sem]) rfl) (fun hS => ?_)
          clear hK K
          try simp only [Act.put, sb, s0, sz]
          refine wpAnyH_done (by kernel_rfl) ?_ _
        rotate_right
        focus
          (go_simp; (first | have hA := hH.alloc (.cells #[.int .i64 0, .int .u8 0, .int .u8 0, .int .u8 0, .int .u8 0, .int .u8 0, .int .u8 0, .int .u8 0, .int .u8 0, .int .u8 0, .int .u8 0, .int .u8 0, .int .u8 0, .int .u8 0, .int .u8 0, .int .u8 0, .int .u8 0, .int .u8 0, .int .u8 0, .int .u8 0, .int .u8 0, .int .u8 0, .int .u8 0, .int .u8 0, .int .u8 0, .int .u8 0, .int .u8 0, .int .u8 0, .int .u8 0, .int .u8 0, .int .u8 0, .int .u8 0, .int .u8 0, .string ⟨#[]⟩] 71) | have hA := hD.alloc (.cells #[.int .i64 0, .int .u8 0, .int .u8 0, .int .u8 0, .int .u8 0, .int .u8 0, .int .u8 0, .int .u8 0, .int .u8 0, .int .u8 0, .int .u8 0, .int .u8 0, .int .u8 0, .int .u8 0, .int .u8 0, .int .u8 0, .int .u8 0, .int .u8 0, .int .u8 0, .int .u8 0, .int .u8 0, .int .u8 0, .int .u8 0, .int .u8 0, .int .u8 0, .int .u8 0, .int .u8 0, .int .u8 0, .int .u8 0, .int .u8 0, .int .u8 0, .int .u8 0, .int .u8 0, .string ⟨#[]⟩] 71)))
          refine hK.out _ _ (atVm hA (by repeat (first | exact List.Mem.head _ | refine List.Mem.tail _ ?_)) (by simp [go_sem]) rfl) (fun hS => ?_)
          clear hK K
          try simp only [Act.put, sb, s0, sz]
          refine wpAnyH_ready (rs := [5]) (by kernel_rfl) (by simp) ?_
          refine (AllReadyH.cons (o := { dst := some 16, op := Go.Op.call { callee := Go.Callee.value (Go.Operand.func 108), args := #[Go.Operand.tmp 15], argTypes := #[113] }, type := 66, pos := "record.go:46", after := #[{ on := 4, ground := Go.Ground.data }, { on := 2, ground := Go.Ground.chain }], guard := none }) rfl (fun K hK => ?_) AllReadyH.nil)
          (go_simp; (first | refine (HH (hA.front 2 rfl)).mono ?_ | refine (HH (hD.front 1 rfl)).mono ?_); rintro e w3 ⟨v, rfl, rfl, hH⟩; simp only [List.eraseIdx_cons_succ, List.eraseIdx_cons_zero] at hH)
          refine hK.out _ _ (atVm hH (by repeat (first | exact List.Mem.head _ | refine List.Mem.tail _ ?_)) (by simp [go_sem]) rfl) (fun hS => ?_)
          clear hK K
          try simp only [Act.put, sb, s0, sz]
          refine takeW 6 ⟨some 17, .build 71 #[(0, .tmp 14), (1, .tmp 16)], 71, "record.go:46", #[⟨3, .data⟩, ⟨5, .data⟩], none⟩ ?_ (.inl ⟨by rfl, ?_⟩) hS ?_
          rotate_left
          · (intro w hSw; (try dsimp only at hSw); go_simp; (try with_reducible rfl))
          try simp only [Act.put, sb, s0, sz]
          refine wpAnyH_ready (rs := [8]) (by kernel_rfl) (by simp) ?_
          refine (AllReadyH.cons (o := { dst := none, op := Go.Op.store 71 (Go.Operand.tmp 4) (Go.Operand.tmp 17), type := 0, pos := "record.go:46", after := #[{ on := 7, ground := Go.Ground.data }, { on := 6, ground := Go.Ground.data }, { on := 5, ground := Go.Ground.chain }, { on := 0, ground := Go.Ground.phase }, { on := 1, ground := Go.Ground.phase }, { on := 2, ground := Go.Ground.phase }, { on := 3, ground := Go.Ground.phase }, { on := 4, ground := Go.Ground.phase }, { on := 5, ground := Go.Ground.phase }, { on := 6, ground := Go.Ground.phase }, { on := 7, ground := Go.Ground.phase }], guard := none }) rfl (fun K hK => ?_) AllReadyH.nil)
          ((first | refine step_storeW hA 0 rfl (by rfl) (by rfl) (by rfl) (xs := rc0) (by rfl) Tryd.sizeOf71 Hl0.out Ho0.out rfl ?_ | refine step_storeW hH 1 rfl (by rfl) (by rfl) (by rfl) (xs := rc0) (by rfl) Tryd.sizeOf71 Hl0.out Ho0.out rfl ?_); intro w6 hEs; simp only [List.set_cons_zero, List.set_cons_succ] at hEs)
          refine hK.out _ _ (atVm hEs (by repeat (first | exact List.Mem.head _ | refine List.Mem.tail _ ?_)) (by simp [go_sem]) rfl) (fun hS => ?_)
          clear hK K
          try simp only [Act.put, sb, s0, sz]
          refine wpAnyH_done (by kernel_rfl) ?_ _
      rotate_right
      focus
        (go_simp; (first | have hA := hH.alloc (.cells #[.int .i64 0, .int .u8 0, .int .u8 0, .int .u8 0, .int .u8 0, .int .u8 0, .int .u8 0, .int .u8 0, .int .u8 0, .int .u8 0, .int .u8 0, .int .u8 0, .int .u8 0, .int .u8 0, .int .u8 0, .int .u8 0, .int .u8 0, .int .u8 0, .int .u8 0, .int .u8 0, .int .u8 0, .int .u8 0, .int .u8 0, .int .u8 0, .int .u8 0, .int .u8 0, .int .u8 0, .int .u8 0, .int .u8 0, .int .u8 0, .int .u8 0, .int .u8 0, .int .u8 0, .string ⟨#[]⟩] 71) | have hA := hD.alloc (.cells #[.int .i64 0, .int .u8 0, .int .u8 0, .int .u8 0, .int .u8 0, .int .u8 0, .int .u8 0, .int .u8 0, .int .u8 0, .int .u8 0, .int .u8 0, .int .u8 0, .int .u8 0, .int .u8 0, .int .u8 0, .int .u8 0, .int .u8 0, .int .u8 0, .int .u8 0, .int .u8 0, .int .u8 0, .int .u8 0, .int .u8 0, .int .u8 0, .int .u8 0, .int .u8 0, .int .u8 0, .int .u8 0, .int .u8 0, .int .u8 0, .int .u8 0, .int .u8 0, .int .u8 0, .string ⟨#[]⟩] 71)))
        refine hK.out _ _ (atVm hA (by repeat (first | exact List.Mem.head _ | refine List.Mem.tail _ ?_)) (by simp [go_sem]) rfl) (fun hS => ?_)
        clear hK K
        try simp only [Act.put, sb, s0, sz]
        refine wpAnyH_ready (rs := [2]) (by kernel_rfl) (by simp) ?_
        refine (AllReadyH.cons (o := { dst := some 13, op := Go.Op.call { callee := Go.Callee.value (Go.Operand.func 107), args := #[Go.Operand.tmp 12], argTypes := #[113] }, type := 3, pos := "record.go:46", after := #[{ on := 1, ground := Go.Ground.data }], guard := none }) rfl (fun K hK => ?_) AllReadyH.nil)
        (go_simp; (first | refine (Left_any (hA.front 2 rfl)).mono ?_ | refine (Left_any (hD.front 1 rfl)).mono ?_); rintro e w2 ⟨rfl, rfl⟩)
        refine hK.out _ _ (by first | exact (atVm hA (by repeat (first | exact List.Mem.head _ | refine List.Mem.tail _ ?_)) (by simp [go_sem]) rfl) | exact (atVm hD (by repeat (first | exact List.Mem.head _ | refine List.Mem.tail _ ?_)) (by simp [go_sem]) rfl)) (fun hS => ?_)
        clear hK K
        try simp only [Act.put, sb, s0, sz]
        refine takeW 3 ⟨some 14, .binOp .sub 3 (.tmp 11) (.tmp 13) 3, 3, "record.go:46", #[⟨0, .data⟩, ⟨2, .data⟩], none⟩ ?_ (.inl ⟨by rfl, ?_⟩) hS ?_
        rotate_left
        · (intro w hSw; (try dsimp only at hSw); go_simp; (try with_reducible rfl))
        try simp only [Act.put, sb, s0, sz]
        refine wpAnyH_ready (rs := [5]) (by kernel_rfl) (by simp) ?_
        refine (AllReadyH.cons (o := { dst := some 16, op := Go.Op.call { callee := Go.Callee.value (Go.Operand.func 108), args := #[Go.Operand.tmp 15], argTypes := #[113] }, type := 66, pos := "record.go:46", after := #[{ on := 4, ground := Go.Ground.data }, { on := 2, ground := Go.Ground.chain }], guard := none }) rfl (fun K hK => ?_) AllReadyH.nil)
        (go_simp; (first | refine (HH (hA.front 2 rfl)).mono ?_ | refine (HH (hD.front 1 rfl)).mono ?_); rintro e w3 ⟨v, rfl, rfl, hH⟩; simp only [List.eraseIdx_cons_succ, List.eraseIdx_cons_zero] at hH)
        refine hK.out _ _ (atVm hH (by repeat (first | exact List.Mem.head _ | refine List.Mem.tail _ ?_)) (by simp [go_sem]) rfl) (fun hS => ?_)
        clear hK K
        try simp only [Act.put, sb, s0, sz]
        refine takeW 6 ⟨some 17, .build 71 #[(0, .tmp 14), (1, .tmp 16)], 71, "record.go:46", #[⟨3, .data⟩, ⟨5, .data⟩], none⟩ ?_ (.inl ⟨by rfl, ?_⟩) hS ?_
        rotate_left
        · (intro w hSw; (try dsimp only at hSw); go_simp; (try with_reducible rfl))
        try simp only [Act.put, sb, s0, sz]
        refine wpAnyH_ready (rs := [8]) (by kernel_rfl) (by simp) ?_
        refine (AllReadyH.cons (o := { dst := none, op := Go.Op.store 71 (Go.Operand.tmp 4) (Go.Operand.tmp 17), type := 0, pos := "record.go:46", after := #[{ on := 7, ground := Go.Ground.data }, { on := 6, ground := Go.Ground.data }, { on := 5, ground := Go.Ground.chain }, { on := 0, ground := Go.Ground.phase }, { on := 1, ground := Go.Ground.phase }, { on := 2, ground := Go.Ground.phase }, { on := 3, ground := Go.Ground.phase }, { on := 4, ground := Go.Ground.phase }, { on := 5, ground := Go.Ground.phase }, { on := 6, ground := Go.Ground.phase }, { on := 7, ground := Go.Ground.phase }], guard := none }) rfl (fun K hK => ?_) AllReadyH.nil)
        ((first | refine step_storeW hA 0 rfl (by rfl) (by rfl) (by rfl) (xs := rc0) (by rfl) Tryd.sizeOf71 Hl0.out Ho0.out rfl ?_ | refine step_storeW hH 1 rfl (by rfl) (by rfl) (by rfl) (xs := rc0) (by rfl) Tryd.sizeOf71 Hl0.out Ho0.out rfl ?_); intro w6 hEs; simp only [List.set_cons_zero, List.set_cons_succ] at hEs)
        refine hK.out _ _ (atVm hEs (by repeat (first | exact List.Mem.head _ | refine List.Mem.tail _ ?_)) (by simp [go_sem]) rfl) (fun hS => ?_)
        clear hK K
        try simp only [Act.put, sb, s0, sz]
        refine wpAnyH_done (by kernel_rfl) ?_ _
      all_goals
        refine onlyN_n ?_
        first
          | (replace hEs := (hEs : Ent (pt wr.heap.size (.cells rc0.toArray _) :: _) _); generalize wr.heap.size = ra at *)
          | (replace hEs := (hEs.front 1 rfl : Ent (pt wr.heap.size (.cells rc0.toArray _) :: _) _); generalize wr.heap.size = ra at *)
          | (replace hEs := (hEs : Ent (pt w3.heap.size (.cells rc0.toArray _) :: _) _); generalize w3.heap.size = ra at *)
        replace hEs : Ent (pt ra (.cells rc0.toArray 71) :: opener o b1 0 :: pt b (.cells #[.pointer (some ⟨o, 0, none⟩)] 113) :: JK) w6 := hEs
        have hs6 : (Instr.loadAt 113 (.pointer (some ⟨b, 0, none⟩))).run Tryd.prog w6 = .ok (.pointer (some ⟨o, 0, none⟩)) w6 := run_load1 hEs 2 rfl (by simp [go_sem]) rfl
        clear hE hD hS hc
        gi_wp2_with (first
          | (gi_at_call 53; refine (callsIn_wide.2 (HT (hEs.front 1 rfl))).mono ?_; clear hEs HT; rintro e w4 ⟨v, rfl, rfl, hE4⟩; have hs4 : (Instr.loadAt 113 (.pointer (some ⟨b, 0, none⟩))).run Tryd.prog w4 = .ok (.pointer (some ⟨o, 0, none⟩)) w4 := run_load1 hE4 2 rfl (by simp [go_sem]) rfl)
          | (gi_at_call 54; refine (callsIn_wide.2 (HX hE4)).mono ?_; clear hE4 HX; rintro e w5 ⟨v, rfl, rfl, hE5⟩; replace hE5 : Ent (opener o rest 0 :: pt ra (.cells rc0.toArray 71) :: pt b (.cells #[.pointer (some ⟨o, 0, none⟩)] 113) :: JK) w5 := hE5; have k33 : w5.cell? ⟨ra, 33, none⟩ = some (.string ⟨#[]⟩) := (hE5.cell 1 rfl 33).trans Hc33.out; have f33 : w5.frozen? ⟨ra, 33, none⟩ = false := hE5.frozen 1 rfl 33; have hE7 := hE5.setCell 1 rfl 33 (.string ⟨data.toArray⟩); simp only [List.setIfInBounds_toArray, List.set_cons_succ, List.set_cons_zero, Hset.out] at hE7; have hs7 : (Instr.loadAt 113 (.pointer (some ⟨b, 0, none⟩))).run Tryd.prog (w5.setCell ⟨ra, 33, none⟩ (.string ⟨data.toArray⟩)) = .ok (.pointer (some ⟨o, 0, none⟩)) (w5.setCell ⟨ra, 33, none⟩ (.string ⟨data.toArray⟩)) := run_load1 hE7 2 rfl (by simp [go_sem]) rfl; have hr7 : (Instr.loadAt 71 (.pointer (some ⟨ra, 0, none⟩))).run Tryd.prog (w5.setCell ⟨ra, 33, none⟩ (.string ⟨data.toArray⟩)) = .ok (.agg rc1.toArray) (w5.setCell ⟨ra, 33, none⟩ (.string ⟨data.toArray⟩)) := atWm hE7 (by repeat (first | exact List.Mem.head _ | refine List.Mem.tail _ ?_)) Tryd.isAgg71 Tryd.sizeOf71 Hl1.out; obtain ⟨fn, tmps, assign, body, hy, hR⟩ := hYk _ ((hE7.erase 1).front 1 rfl))
          | (gi_at_call 55; have H := Err_any hE7; refine (callsIn_wide.2 H).mono ?_; clear H; rintro e w8 ⟨rfl, rfl⟩))
        refine hR.mono ?_
        clear hR hy k33 f33 hE7 hs7 hr7 hs6 hE5
        rintro e W3 (⟨rfl, hE3⟩ | ⟨rfl, hE3⟩)
        · gi_wp2
          go_roundw
          case rel => exact ⟨k + 1, Hmx.out, by rw [Hrest.out, HJ1.out]; exact hE3⟩
          case measure => rw [oLeft_eq hE3, HO.out]; exact Hln.out
        · gi_wp2
          refine bodyPost_ret (results_none rfl _ _ _) rfl ?_
          exact ⟨⟨_, rfl⟩, .inr (Hend2.out _ hE3)⟩
    · obtain rfl : k = rs.length := by omega
      rw [List.drop_length] at HL
      have hn : (((recB []).length : Nat) : Int) = 0 := rfl
      rw [hn] at HL
      gi_wp2_with (gi_at_call 107; refine (callsIn_wide.2 HL).mono ?_; rintro e w' ⟨rfl, rfl⟩)
      go_end0
      have e1 : (offs 0 rs).take rs.length = offs 0 rs := by rw [← offs_len 0 rs, List.take_length]
      rw [List.drop_length, e1] at hE
      exact ⟨⟨_, rfl⟩, .inl hE⟩
end Go.Proofs.YtdpfigkjkjjedaaDoor
namespace Go.Proofs.YtdpfigkjkjjedaaDoor
open Go.RowKit Go.SL

theorem Need_neg (n : Nat) (hn : n ≤ 1000000) (w : World) : Calls Tryd.prog 18 #[.int .i64 (-(n : Int))] w (fun e w' => e = .returned (.int .i64 1) ∧ w = w') := by
  have h1 : max (0 : Int) (-(n : Int)) = 0 := by omega
  go_enter Tryd.func18, Tryd.ntmps18
  go_wp2
  go_ret
  exact ⟨by first | rfl | simp, rfl⟩

abbrev rowRs (ao : Option Addr) (c : Nat) (xs : List Sht) : HProp := row 24 3 (.slice ao xs.length c) xs.length (xs.flatMap shC)
theorem info_rsht : elemInfo Tryd.prog 24 = some (some 3, 3, 32) := by kernel_rfl
def RcRel (seq : Nat) (t : List UInt8) (l : List HProp) (o s x : Value) (wr : World) : Prop :=
  ∃ (k : Nat) (ao : Option Addr) (c : Nat) (pre : List Sht), k < needN t.length ∧ pre = (List.range k).map (pieceAt seq t) ∧ s = .int .u64 ((seq + k) % 18446744073709551616 : Nat) ∧ x = .string ⟨(t.drop (497 * k)).toArray⟩ ∧ o = .slice ao pre.length c ∧ Ent (rowRs ao c pre :: l) wr
def strLen (v : Value) : Nat := match v with | .string s => s.size | _ => 0
set_option maxRecDepth 100000 in
set_option maxHeartbeats 4000000 in
theorem rCut_any {seq : Nat} (hs : seq < 18446744073709551616) {t : List UInt8} (ht : t.length ≤ 1000000) {l : List HProp} {w : World} (hE : Ent l w) :
    Calls Tryd.prog 17 #[.int .u64 seq, .string ⟨t.toArray⟩] w (Ret fun v w' => ∃ ao c, v = .slice ao (cutL seq t).length c ∧ Ent (rowRs ao c (cutL seq t) :: l) w') := by
  go_enter Tryd.func17, Tryd.ntmps17
  go_wp2
  go_loopw [5, 0, 1] (fun o s x wr => RcRel seq t l o s x wr) (fun _ _ x _ => strLen x)
  case atStart => exact ⟨0, none, 0, [], needN_pos _, rfl, by rw [Nat.add_zero, Nat.mod_eq_of_lt hs], by simp, rfl, hE.nil _ _⟩
  case round =>
    clear hE
    obtain ⟨k, ao, c, pre, hk, hpre, rfl, rfl, rfl, hE⟩ := hrel
    have Hm := SL.hid (need_more hk)
    have hcl : (t.drop (497 * k)).length = t.length - 497 * k := List.length_drop
    have hcl2 : (t.drop (497 * k)).length ≤ 1000000 := by omega
    have hsq : (seq + k) % 18446744073709551616 < 18446744073709551616 := by omega
    have hpl : pre.length ≤ 1000000 := by rw [hpre]; simp; unfold needN at hk; omega
    by_cases hmore : k + 1 < needN t.length
    · have Hp := SL.hid (show pre ++ [⟨(seq + k) % 18446744073709551616, false, (t.drop (497 * k)).take 497⟩] = (List.range (k + 1)).map (pieceAt seq t) by rw [hpre, ← piece_more hmore, pieces_snoc])
      have hlt : decide ((497 : Int) < ((t.drop (497 * k)).length : Int)) = true := decide_eq_true (by have := Hm.out.1 hmore; omega)
      have hs1 : ∀ w, (Instr.sliceAt 9 (.string ⟨(t.drop (497 * k)).toArray⟩) none (some (.int .i64 497)) none).run Tryd.prog w = .ok (.string ⟨((t.drop (497 * k)).take 497).toArray⟩) w := fun w => run_slice_sHi (P := Tryd.prog) Tryd.underlying9 (bs := t.drop (497 * k)) (k := 497) (by have := Hm.out.1 hmore; omega) w
      have hs2 : ∀ w, (Instr.sliceAt 9 (.string ⟨(t.drop (497 * k)).toArray⟩) (some (.int .i64 497)) none none).run Tryd.prog w = .ok (.string ⟨((t.drop (497 * k)).drop 497).toArray⟩) w := fun w => run_slice_sLo (P := Tryd.prog) Tryd.underlying9 (bs := t.drop (497 * k)) (k := 497) (by have := Hm.out.1 hmore; omega) w
      have hsn := seq_next _ hsq
      have Hx := SL.hid (show ((seq + k) % 18446744073709551616 + 1) % 18446744073709551616 = (seq + (k + 1)) % 18446744073709551616 by omega)
      have Hd := SL.hid (show (t.drop (497 * k)).drop 497 = t.drop (497 * (k + 1)) by rw [List.drop_drop]; congr 1)
      have Hcd := SL.hid (show ((t.drop (497 * k)).drop 497).length < (t.drop (497 * k)).length by rw [List.length_drop]; have := Hm.out.1 hmore; omega)
      have Hpre := SL.hid hpre
      have Hpl := SL.hid hpl
      clear hcl hpre hpl
      generalize (seq + k) % 18446744073709551616 = sq at *
      generalize (sq + 1) % 18446744073709551616 = sq' at *
      generalize t.drop (497 * k) = cur at *
      generalize cur.take 497 = p at *
      generalize cur.drop 497 = cur' at *
      go_wp2_with (first
        | go_skip
        | ((with_reducible (show Go.wpList _ _ _ (Go.Oper.mk _ (.buildSlice _ _ _) _ _ _ _ :: _) _ _)); refine wpl_build1 hE rfl rfl (xs := [.int .u64 sq, .bool false, .string ⟨p.toArray⟩]) rfl Tryd.underlying38 zs_rsht Tryd.sizeOf24 (by decide) (by decide) rfl ?_; clear hE; intro b9 w3 hE)
        | ((with_reducible (show Go.wpList _ _ _ (Go.Oper.mk _ (.call { callee := .builtin .append, args := _, argTypes := _ }) _ _ _ _ :: _) _ _)); refine wpl_appendG hE 1 rfl rfl rfl rfl rfl Tryd.underlying38 info_rsht (by decide) (m := 1) (news := shC ⟨sq, false, p⟩) (reads_pt hE 0 rfl (off := 0) (fun j u hu => by rw [Nat.zero_add, List.getElem?_toArray]; exact hu)) rfl (shC_one _) (by have := Hpl.out; omega) (by have := Hpl.out; omega) ?_; clear hE; intro ao' c' w6 hE; simp only [List.set_cons_zero, List.set_cons_succ] at hE))
      go_roundw
      case rel =>
        have e1 : (pre ++ [(⟨sq, false, p⟩ : Sht)]).length = pre.length + 1 := by simp
        have e2 : (pre ++ [(⟨sq, false, p⟩ : Sht)]).flatMap shC = pre.flatMap shC ++ shC ⟨sq, false, p⟩ := by simp
        refine ⟨k + 1, ao', c', pre ++ [⟨sq, false, p⟩], hmore, Hp.out, by rw [← Hx.out], by rw [← Hd.out], by rw [e1], ?_⟩
        simp only [rowRs, e1, e2]
        exact hE.tail
      case measure => simp only [strLen, bytes_size]; exact Hcd.out
    · have hlast : k + 1 = needN t.length := by omega
      have Hp := SL.hid (show pre ++ [⟨(seq + k) % 18446744073709551616, true, t.drop (497 * k)⟩] = cutL seq t by rw [hpre, ← piece_last hlast, pieces_snoc, cutL, hlast])
      have hlt : decide ((497 : Int) < ((t.drop (497 * k)).length : Int)) = false := decide_eq_false (by have := Hm.out; omega)
      have Hpl := SL.hid hpl
      clear hcl hpre hpl
      generalize (seq + k) % 18446744073709551616 = sq at *
      generalize t.drop (497 * k) = cur at *
      go_wp2_with (first
        | go_skip
        | ((with_reducible (show Go.wpList _ _ _ (Go.Oper.mk _ (.buildSlice _ _ _) _ _ _ _ :: _) _ _)); refine wpl_build1 hE rfl rfl (xs := [.int .u64 sq, .bool true, .string ⟨cur.toArray⟩]) rfl Tryd.underlying38 zs_rsht Tryd.sizeOf24 (by decide) (by decide) rfl ?_; clear hE; intro b9 w3 hE)
        | ((with_reducible (show Go.wpList _ _ _ (Go.Oper.mk _ (.call { callee := .builtin .append, args := _, argTypes := _ }) _ _ _ _ :: _) _ _)); refine wpl_appendG hE 1 rfl rfl rfl rfl rfl Tryd.underlying38 info_rsht (by decide) (m := 1) (news := shC ⟨sq, true, cur⟩) (reads_pt hE 0 rfl (off := 0) (fun j u hu => by rw [Nat.zero_add, List.getElem?_toArray]; exact hu)) rfl (shC_one _) (by have := Hpl.out; omega) (by have := Hpl.out; omega) ?_; clear hE; intro ao' c' w6 hE; simp only [List.set_cons_zero, List.set_cons_succ] at hE))
      go_ret
      have e1 : (pre ++ [(⟨sq, true, cur⟩ : Sht)]).length = pre.length + 1 := by simp
      have e2 : (pre ++ [(⟨sq, true, cur⟩ : Sht)]).flatMap shC = pre.flatMap shC ++ shC ⟨sq, true, cur⟩ := by simp
      refine ⟨_, rfl, ao', c', ?_, ?_⟩
      · rw [← Hp.out, e1]; rfl
      · rw [← Hp.out]
        simp only [rowRs, e1, e2]
        exact hE.tail
end Go.Proofs.YtdpfigkjkjjedaaDoor
namespace Go.Proofs.YtdpfigkjkjjedaaDoor
open Go.RowKit Go.SL

/-- a sheet of a row, loaded whole -/
theorem load_row {e t : TypeId} (hA : ∀ w, (isAgg t).run Tryd.prog w = .ok true w) (hn : ∀ w, (Go.sizeOf t).run Tryd.prog w = .ok 3 w) {b off c : Nat} {xs : List Sht} {l : List HProp} {w : World} (hE : Ent l w) (hm : row e 3 (.slice (some ⟨b, off, none⟩) xs.length c) xs.length (xs.flatMap shC) ∈ l) {k : Nat} (hk : k < xs.length) :
    (Instr.loadAt t (.pointer (some ⟨b, off + k * 3, none⟩))).run Tryd.prog w = .ok (.agg #[.int .u64 xs[k].seq, .bool xs[k].last, .string ⟨xs[k].text.toArray⟩]) w := by
  obtain ⟨i, hi⟩ := List.getElem?_of_mem hm
  obtain ⟨b', off', e, h⟩ := sht_at (reads_row hE i hi) hk
  cases e
  exact atCells hA hn (shC xs[k]) rfl h
theorem load_reads {t : TypeId} (hA : ∀ w, (isAgg t).run Tryd.prog w = .ok true w) (hn : ∀ w, (Go.sizeOf t).run Tryd.prog w = .ok 3 w) {b off c : Nat} {xs : List Sht} {w : World} (hr : reads (.slice (some ⟨b, off, none⟩) xs.length c) xs.length (xs.flatMap shC) w) {k : Nat} (hk : k < xs.length) :
    (Instr.loadAt t (.pointer (some ⟨b, off + k * 3, none⟩))).run Tryd.prog w = .ok (.agg #[.int .u64 xs[k].seq, .bool xs[k].last, .string ⟨xs[k].text.toArray⟩]) w ∧
    (Instr.loadAt 9 (.pointer (some ⟨b, off + k * 3 + 2, none⟩))).run Tryd.prog w = .ok (.string ⟨xs[k].text.toArray⟩) w ∧
    (Instr.loadAt 22 (.pointer (some ⟨b, off + k * 3, none⟩))).run Tryd.prog w = .ok (.int .u64 xs[k].seq) w := by
  obtain ⟨b', off', e, h⟩ := sht_at hr hk
  cases e
  refine ⟨atCells hA hn (shC xs[k]) rfl h, atCell ?_ (by simp [go_sem]), atCell ?_ (by simp [go_sem])⟩
  · have := h 2 _ rfl
    rwa [Addr.add_lit] at this
  · have := h 0 _ rfl
    rwa [Addr.add_lit, Nat.add_zero] at this
theorem row_form {e : TypeId} {ao : Option Addr} {c : Nat} {xs : List Sht} {l : List HProp} {w : World} (hE : Ent l w) (i : Nat) (hi : l[i]? = some (row e 3 (.slice ao xs.length c) xs.length (xs.flatMap shC))) (h0 : 0 < xs.length) : ∃ b off, ao = some ⟨b, off, none⟩ := by
  obtain ⟨b, off, h, _⟩ := sht_at (reads_row hE i hi) h0
  exact ⟨b, off, h⟩

def AllRel (xs : List Sht) (l : List HProp) (all m i : Value) (wr : World) : Prop :=
  ∃ (k : Nat) (ao : Option Addr) (c : Nat), k ≤ xs.length ∧ i = .int .i64 k ∧ all = .string ⟨(allT (xs.take k)).toArray⟩ ∧ m = .slice ao (xs.take k).length c ∧ (∀ x ∈ xs.take k, x.text.length ≤ 1000) ∧ Ent (rowSh ao c (xs.take k) :: l) wr
def SameRel (cs xs : List Sht) (l : List HProp) (i is : Value) (wr : World) : Prop :=
  ∃ (k : Nat) (b : Bool), k ≤ cs.length ∧ i = .int .i64 k ∧ is = .bool b ∧ (b = true → cs.length = xs.length ∧ cs.take k = xs.take k) ∧ (b = false → (cs == xs) = false) ∧ Ent l wr
theorem take_next {α : Type} {a b : List α} {k : Nat} (h : a.take k = b.take k) (ha : k < a.length) (hb : k < b.length) (he : a[k] = b[k]) : a.take (k + 1) = b.take (k + 1) := by
  rw [List.take_succ_eq_append_getElem ha, List.take_succ_eq_append_getElem hb, h, he]
theorem eqRsht (x y : Sht) (w : World) : (Op.equalIn 10000 24 (.agg #[.int .u64 x.seq, .bool x.last, .string ⟨x.text.toArray⟩]) (.agg #[.int .u64 y.seq, .bool y.last, .string ⟨y.text.toArray⟩])).run Tryd.prog w = .ok (x == y) w := by
  have h := run_equalIn_agg (P := Tryd.prog) (w := w) 9999 24 #[.int .u64 x.seq, .bool x.last, .string ⟨x.text.toArray⟩] #[.int .u64 y.seq, .bool y.last, .string ⟨y.text.toArray⟩] (by kernel_rfl) (by kernel_rfl)
  refine h.trans ?_
  simp [go_sem]
  obtain ⟨a1, a2, a3⟩ := x
  obtain ⟨b1, b2, b3⟩ := y
  have e : ((⟨a1, a2, a3⟩ : Sht) == ⟨b1, b2, b3⟩) = decide (a1 = b1 ∧ a2 = b2 ∧ a3 = b3) := by
    rw [Bool.eq_iff_iff]; simp
  rw [e]
  by_cases h1 : a1 = b1
  · by_cases h2 : a2 = b2
    · by_cases h3 : a3 = b3
      · simp [h1, h2, h3]
      · simp [h1, h2, h3]
    · simp [h1, h2]
  · have h1' : ¬ ((a1 : Int) = b1) := by omega
    simp [h1, h1']
theorem joinB_cons {xs : List Sht} (h0 : 0 < xs.length) : joinB xs = (cutL xs[0].seq (allT xs) == xs) := by
  cases xs with
  | nil => simp at h0
  | cons x xs => rfl

set_option maxRecDepth 100000 in
set_option maxHeartbeats 4000000 in
theorem SheetCuts_great {seq : Nat} {t : List UInt8} {ao : Option Addr} {n c : Nat} (hg : 5000 < t.length ∨ 20 < n) {l : List HProp} {w : World} (ht : Knows l Table) (hE : Ent l w) :
    Calls Tryd.prog 4 #[.int .u64 seq, .string ⟨t.toArray⟩, .slice ao n c] w (Ret fun v w' => v = .bool true ∧ Ent l w') := by
  by_cases h1 : 5000 < t.length
  · have hd : decide ((5000 : Int) < (t.length : Int)) = true := decide_eq_true (by omega)
    go_enter Tryd.func4, Tryd.ntmps4
    go_wp2_with (first
      | go_skip
      | (go_at_call 10; refine (wakes05_any ht hE).mono ?_; clear hE; rintro e w2 ⟨v, rfl, rfl, hE⟩))
    go_ret
    exact ⟨_, rfl, rfl, hE⟩
  · have hd : decide ((5000 : Int) < (t.length : Int)) = false := decide_eq_false (by omega)
    have hd2 : decide ((20 : Int) < (n : Int)) = true := decide_eq_true (by omega)
    go_enter Tryd.func4, Tryd.ntmps4
    go_wp2_with (first
      | go_skip
      | (go_at_call 10; refine (wakes05_any ht hE).mono ?_; clear hE; rintro e w2 ⟨v, rfl, rfl, hE⟩))
    go_ret
    exact ⟨_, rfl, rfl, hE⟩

set_option maxRecDepth 100000 in
set_option maxHeartbeats 8000000 in
attribute [-go_sem] Instr.loadAt Go.run_equalIn_agg in
theorem SheetCuts_in {seq : Nat} (hs : seq < 18446744073709551616) {t : List UInt8} (h5 : t.length ≤ 5000) {xs : List Sht} (hn : xs.length ≤ 20) (hsq : ∀ x ∈ xs, x.seq < 18446744073709551616) {ao : Option Addr} {c : Nat} {l : List HProp} {w : World} (ht : Knows l Table) (hk : Knows l (reads (.slice ao xs.length c) xs.length (xs.flatMap shC))) (hE : Ent l w) :
    Calls Tryd.prog 4 #[.int .u64 seq, .string ⟨t.toArray⟩, .slice ao xs.length c] w (Ret fun v w' => v = .bool true ∧ Ent l w') := by
  have hd : decide ((5000 : Int) < (t.length : Int)) = false := decide_eq_false (by omega)
  have hd2 : decide ((20 : Int) < (xs.length : Int)) = false := decide_eq_false (by omega)
  have Tok := SL.hid True.intro
  have HNd : ∀ w, Calls Tryd.prog 18 #[.int .i64 t.length] w (fun e w' => e = .returned (.int .i64 ((cutL seq t).length : Nat)) ∧ w = w') := fun w => by rw [cutL_len]; exact Need_any _ (by omega) w
  have HNn : ∀ w, Calls Tryd.prog 18 #[.int .i64 (-(t.length : Int))] w (fun e w' => e = .returned (.int .i64 1) ∧ w = w') := fun w => Need_neg _ (by omega) w
  have HC : ∀ {l : List HProp} {w : World}, Ent l w → _ := fun {l w} h => Cut_any (seq := seq) hs (t := t) (by omega) (l := l) (w := w) h
  have HRC : ∀ {l : List HProp} {w : World}, Ent l w → _ := fun {l w} h => rCut_any (seq := seq) hs (t := t) (by omega) (l := l) (w := w) h
  have HLl := SL.hid (show (cutL seq t).length ≤ 1000000 by rw [cutL_len]; unfold needN; omega)
  generalize cutL seq t = L at *
  have hwneg : IntKind.i64.wrap (-(t.length : Int)) = -(t.length : Int) := by
    simp only [IntKind.wrap, IntKind.bits, IntKind.signed]
    simp
    omega
  go_enter Tryd.func4, Tryd.ntmps4
  go_wp2_with (first
    | go_skip
    | (go_at_call 16; refine (HC hE).mono ?_; clear hE HC; rintro e w2 ⟨v, rfl, a1, c1, rfl, hE⟩)
    | (go_at_call 17; refine (HRC hE).mono ?_; clear hE HRC; rintro e w3 ⟨v, rfl, a2, c2, rfl, hE⟩)
    | (go_at_call 18; clear Tok; refine (HNd _).mono ?_; rintro e w4 ⟨rfl, rfl⟩)
    | (go_at_call 18; refine (HNn _).mono ?_; rintro e w4 ⟨rfl, rfl⟩))
  clear HNd HNn hwneg hd hd2
  go_loopw [9] (fun i wr => CntRel L.length (rowRs a2 c2 L :: rowSh a1 c1 L :: l) i wr) (fun i _ => L.length - (intOf i).toNat)
  case atStart => exact ⟨0, Nat.zero_le _, rfl, hE⟩
  case round =>
    clear hE
    obtain ⟨k, hkl, rfl, hE⟩ := hrel
    have hLl := HLl.out
    by_cases hlt : k < L.length
    · obtain ⟨b2, o2, rfl⟩ := row_form hE 0 rfl (by omega)
      obtain ⟨b1, o1, rfl⟩ := row_form hE 1 rfl (by omega)
      have f1 := SL.hid (show ∀ (l' : List HProp) (w : World), Ent l' w → rowSh (some ⟨b1, o1, none⟩) c1 L ∈ l' → _ from fun l' w h hm => load_row (t := 30) Tryd.isAgg30 Tryd.sizeOf30 h hm hlt)
      have f2 := SL.hid (show ∀ (l' : List HProp) (w : World), Ent l' w → rowRs (some ⟨b2, o2, none⟩) c2 L ∈ l' → _ from fun l' w h hm => load_row (t := 24) Tryd.isAgg24 Tryd.sizeOf24 h hm hlt)
      have hcm := fun w => eqSht L[k] L[k] w
      rw [beq_self_eq_true] at hcm
      have hof := SL.hid (show ∀ (l' : List HProp) (w : World), Ent l' w → _ from fun l' w h => of05_any L[k] (l := l') (w := w) h)
      generalize hx : L[k] = x at f1 f2 hcm hof
      clear hx
      obtain ⟨x1, x2, x3⟩ := x
      go_wp2
      refine wp_region_held_drew (S := (fun w' => ((Instr.loadAt 30 (.pointer (some ⟨b1, o1 + k * 3, none⟩))).run Tryd.prog w' = .ok (.agg #[.int .u64 x1, .bool x2, .string ⟨x3.toArray⟩]) w') ∧ ((Instr.loadAt 24 (.pointer (some ⟨b2, o2 + k * 3, none⟩))).run Tryd.prog w' = .ok (.agg #[.int .u64 x1, .bool x2, .string ⟨x3.toArray⟩]) w'))) (by kernel_rfl) ⟨(f1.out _ _ hE.drew (by repeat (first | exact List.Mem.head _ | refine List.Mem.tail _ ?_))), (f2.out _ _ hE.drew (by repeat (first | exact List.Mem.head _ | refine List.Mem.tail _ ?_)))⟩ (fun hS => ?_)
      refine takeW 0 ⟨some 59, .move (.tmp 7), 39, "law.go:51", #[], none⟩ ?_ (.inl ⟨by rfl, ?_⟩) hS ?_
      rotate_left
      · (intro w hSw; (try dsimp only at hSw); go_simp; (try with_reducible rfl))
      try simp only [Act.put, sb, s0, sz]
      refine takeW 1 ⟨some 60, .move (.tmp 9), 3, "law.go:51", #[], none⟩ ?_ (.inl ⟨by rfl, ?_⟩) hS ?_
      rotate_left
      · (intro w hSw; (try dsimp only at hSw); go_simp; (try with_reducible rfl))
      try simp only [Act.put, sb, s0, sz]
      refine takeW 2 ⟨some 61, .indexAddr 39 (.tmp 59) (.tmp 60), 0, "law.go:51", #[⟨0, .data⟩, ⟨1, .data⟩], none⟩ ?_ (.inl ⟨by rfl, ?_⟩) hS ?_
      rotate_left
      · (intro w hSw; (try dsimp only at hSw); go_simp; (try with_reducible rfl))
      try simp only [Act.put, sb, s0, sz]
      refine takeW 3 ⟨some 62, .load 30 (.tmp 61), 30, "law.go:51", #[⟨2, .data⟩], none⟩ ?_ (.inl ⟨by rfl, ?_⟩) hS ?_
      rotate_left
      · (intro w hSw; (try dsimp only at hSw); go_simp; (try with_reducible rfl))
      try simp only [Act.put, sb, s0, sz]
      refine takeW 4 ⟨some 63, .move (.tmp 8), 38, "law.go:51", #[], none⟩ ?_ (.inl ⟨by rfl, ?_⟩) hS ?_
      rotate_left
      · (intro w hSw; (try dsimp only at hSw); go_simp; (try with_reducible rfl))
      try simp only [Act.put, sb, s0, sz]
      refine takeW 5 ⟨some 64, .move (.tmp 9), 3, "law.go:51", #[], none⟩ ?_ (.inl ⟨by rfl, ?_⟩) hS ?_
      rotate_left
      · (intro w hSw; (try dsimp only at hSw); go_simp; (try with_reducible rfl))
      try simp only [Act.put, sb, s0, sz]
      refine takeW 6 ⟨some 65, .indexAddr 38 (.tmp 63) (.tmp 64), 0, "law.go:51", #[⟨4, .data⟩, ⟨5, .data⟩], none⟩ ?_ (.inl ⟨by rfl, ?_⟩) hS ?_
      rotate_left
      · (intro w hSw; (try dsimp only at hSw); go_simp; (try with_reducible rfl))
      try simp only [Act.put, sb, s0, sz]
      refine takeW 7 ⟨some 66, .load 24 (.tmp 65), 24, "law.go:51", #[⟨6, .data⟩], none⟩ ?_ (.inl ⟨by rfl, ?_⟩) hS ?_
      rotate_left
      · (intro w hSw; (try dsimp only at hSw); go_simp; (try with_reducible rfl))
      try simp only [Act.put, sb, s0, sz]
      refine wpAnyH_ready (rs := [8]) (by kernel_rfl) (by simp) ?_
      refine (AllReadyH.cons (o := { dst := some 67, op := Go.Op.call { callee := Go.Callee.value (Go.Operand.func 12), args := #[Go.Operand.tmp 66], argTypes := #[24] }, type := 30, pos := "law.go:51", after := #[{ on := 7, ground := Go.Ground.data }], guard := none }) rfl (fun K hK => ?_) AllReadyH.nil)
      (go_simp; refine (hof.out _ _ hE.drew).mono ?_; rintro e wa ⟨v, rfl, rfl, hEa⟩)
      refine hK.out _ _ ⟨(f1.out _ _ hEa (by repeat (first | exact List.Mem.head _ | refine List.Mem.tail _ ?_))), (f2.out _ _ hEa (by repeat (first | exact List.Mem.head _ | refine List.Mem.tail _ ?_)))⟩ (fun hS => ?_)
      clear hK K
      try simp only [Act.put, sb, s0, sz]
      refine takeW 9 ⟨some 68, .binOp .neq 30 (.tmp 62) (.tmp 67) 30, 4, "law.go:51", #[⟨3, .data⟩, ⟨8, .data⟩], none⟩ ?_ (.inl ⟨by rfl, ?_⟩) hS ?_
      rotate_left
      · (intro w hSw; (try dsimp only at hSw); go_simp; (try with_reducible rfl))
      try simp only [Act.put, sb, s0, sz]
      refine wpAnyH_done (by kernel_rfl) ?_ _
      go_wp2
      go_roundw
      case rel => exact ⟨k + 1, hlt, by first | rfl | simp, hEa⟩
      case measure => simp [intOf] <;> omega
    · obtain rfl : k = L.length := by omega
      replace hE : Ent l _ := hE.tail.tail
      clear HLl hLl hkl
      go_wp2
      go_loopw [10, 11, 12] (fun all m i wr => AllRel xs l all m i wr) (fun _ _ i _ => xs.length - (intOf i).toNat)
      case atStart => exact ⟨0, none, 0, Nat.zero_le _, rfl, rfl, rfl, by simp, hE.nil _ _⟩
      case round =>
        clear hE
        obtain ⟨k, am, cm, hkl, rfl, rfl, rfl, hall, hE⟩ := hrel
        by_cases hlt : k < xs.length
        · obtain ⟨b, off, rfl, _⟩ := sht_at (hk _ hE.tail) hlt
          obtain ⟨fA, fT, _⟩ := load_reads (t := 24) Tryd.isAgg24 Tryd.sizeOf24 (hk _ hE.tail) hlt
          have hal := allT_len (xs.take k) hall
          have hal2 : (xs.take k).length ≤ 20 := by rw [List.length_take]; omega
          have Hs := SL.hid (allT_snoc xs hlt)
          have Ht := SL.hid (List.take_succ_eq_append_getElem hlt)
          have Hall := SL.hid hall
          have hof := SL.hid (show ∀ (l' : List HProp) (w : World), Ent l' w → _ from fun l' w h => of05_any xs[k] (l := l') (w := w) h)
          have Htl := SL.hid (show (xs.take k).length = k by rw [List.length_take]; omega)
          clear hall
          by_cases hbig : 1000 < xs[k].text.length
          · have hd : decide ((1000 : Int) < (xs[k].text.length : Int)) = true := decide_eq_true (by omega)
            generalize xs[k] = x at *
            go_wp2_with (first
              | go_skip
              | (go_at_call 10; refine (wakes05_any ht hE.tail).mono ?_; clear hE; rintro e w2 ⟨v, rfl, rfl, hE⟩))
            go_ret
            exact ⟨_, rfl, rfl, hE⟩
          · have hd : decide ((1000 : Int) < (xs[k].text.length : Int)) = false := decide_eq_false (by omega)
            have Hx := SL.hid (show xs[k].text.length ≤ 1000 by omega)
            obtain ⟨p, hp, hj, hcc⟩ := cat3 (allT (xs.take k)) xs[k].text (by omega)
            have Hp := SL.hid hp
            have hpl : (xs.take k).length ≤ 1000 := by omega
            clear hp hbig hal hal2
            generalize xs[k] = x at *
            generalize xs.take k = pre at *
            obtain ⟨x1, x2, x3⟩ := x
            have Hpl := SL.hid hpl
            clear hpl
            go_wp2_with (first
              | go_skip
              | (go_at_call 12; refine (hof.out _ _ hE).mono ?_; clear hE; rintro e w2 ⟨v, rfl, rfl, hE⟩)
              | ((with_reducible (show Go.wpList _ _ _ (Go.Oper.mk _ (.buildSlice _ _ _) _ _ _ _ :: _) _ _)); refine wpl_build1 hE rfl rfl (xs := [.int .u64 x1, .bool x2, .string ⟨x3.toArray⟩]) rfl Tryd.underlying39 zs_sht Tryd.sizeOf30 (by decide) (by decide) rfl ?_; clear hE; intro b9 w3 hE)
              | ((with_reducible (show Go.wpList _ _ _ (Go.Oper.mk _ (.call { callee := .builtin .append, args := _, argTypes := _ }) _ _ _ _ :: _) _ _)); refine wpl_appendG hE 1 rfl rfl rfl rfl rfl Tryd.underlying39 info_sht (by decide) (m := 1) (news := shC ⟨x1, x2, x3⟩) (reads_pt hE 0 rfl (off := 0) (fun j u hu => by rw [Nat.zero_add, List.getElem?_toArray]; exact hu)) rfl (shC_one _) (by have := Hpl.out; omega) (by have := Hpl.out; omega) ?_; clear hE; intro ao' c' w6 hE; simp only [List.set_cons_zero, List.set_cons_succ] at hE))
            go_roundw
            case rel =>
              have e1 : (pre ++ [(⟨x1, x2, x3⟩ : Sht)]).length = pre.length + 1 := by simp
              have e2 : (pre ++ [(⟨x1, x2, x3⟩ : Sht)]).flatMap shC = pre.flatMap shC ++ shC ⟨x1, x2, x3⟩ := by simp
              refine ⟨k + 1, ao', c', hlt, by first | rfl | simp, by rw [Hs.out, Hp.out], by rw [Ht.out, e1], ?_, ?_⟩
              · rw [Ht.out]
                intro y hy
                simp only [List.mem_append, List.mem_singleton] at hy
                rcases hy with hy | rfl
                · exact Hall.out y hy
                · exact Hx.out
              · rw [Ht.out]
                simp only [rowSh, e1, e2]
                exact hE.tail
            case measure => simp [intOf] <;> omega
        · obtain rfl : k = xs.length := by omega
          rw [List.take_length] at hall hE
          rw [List.take_length]
          have Hall := SL.hid hall
          have hal := allT_len xs hall
          clear hall hkl
          rcases Nat.eq_zero_or_pos xs.length with h0 | h0
          · obtain rfl : xs = [] := List.eq_nil_of_length_eq_zero h0
            have HJ : ∀ {l' : List HProp} {w : World} {ao : Option Addr} {c : Nat}, Ent l' w → Calls Tryd.prog 19 #[.slice ao 0 c] w (Ret fun v w' => v = .tuple #[.string ⟨#[]⟩, .bool false] ∧ Ent l' w') := fun h => Join_none h
            go_wp2_with (first
              | go_skip
              | (go_at_call 19; refine (HJ hE).mono ?_; clear hE HJ; rintro e w7 ⟨v, rfl, rfl, hE⟩)
              | (go_at_call 10; refine (wakes05_any ht hE.tail).mono ?_; clear hE; rintro e w2 ⟨v, rfl, rfl, hE⟩))
            go_ret
            exact ⟨_, rfl, rfl, hE⟩
          · obtain ⟨b, off, rfl, _⟩ := sht_at (hk _ hE.tail) h0
            obtain ⟨_, _, f0⟩ := load_reads (t := 24) Tryd.isAgg24 Tryd.sizeOf24 (hk _ hE.tail) h0
            rw [Nat.zero_mul, Nat.add_zero] at f0
            have hpos : decide ((0 : Int) < (xs.length : Int)) = true := decide_eq_true (by omega)
            have h00 : ¬ xs.length = 0 := by omega
            have HRC : ∀ {l : List HProp} {w : World}, Ent l w → _ := fun {l w} h => rCut_any (seq := xs[0].seq) (hsq _ (List.getElem_mem h0)) (t := allT xs) (by omega) (l := l) (w := w) h
            have HJB := SL.hid (joinB_cons h0)
            have HJT := SL.hid (show joinB xs = true → joinT xs = allT xs from fun h => by rw [joinT, h, if_pos rfl])
            have HJF := SL.hid (show joinB xs = false → joinT xs = [] from fun h => by rw [joinT, h]; rfl)
            have HLl := SL.hid (show (cutL xs[0].seq (allT xs)).length ≤ 1000000 by rw [cutL_len]; unfold needN; omega)
            have Hn := SL.hid hn
            have Hsq := SL.hid hsq
            generalize cutL xs[0].seq (allT xs) = C at *
            generalize xs[0].seq = sq0 at *
            clear hal hsq hn
            generalize hT : allT xs = T at *
            clear hT
            go_wp2_with (first
              | go_skip
              | (go_at_call 17; refine (HRC hE).mono ?_; clear hE HRC; rintro e w3 ⟨v, rfl, a3, c3, rfl, hE⟩))
            go_loopw [15, 13] (fun i is wr => SameRel C xs (rowRs a3 c3 C :: rowSh am cm xs :: l) i is wr) (fun i _ _ => C.length - (intOf i).toNat)
            case atStart =>
              refine ⟨0, _, Nat.zero_le _, rfl, rfl, fun h => ⟨by (have h2 : ((C.length : Nat) : Int) = xs.length := by simpa using h); omega, rfl⟩, fun h => ?_, hE⟩
              rw [beq_eq_false_iff_ne]
              intro e
              rw [e] at h
              simp at h
            case round =>
              clear hE
              obtain ⟨k, b, hkl, rfl, rfl, hyes, hno, hE⟩ := hrel
              have hLl := HLl.out
              by_cases hgo : k < C.length ∧ b = true
              · obtain ⟨hlt, rfl⟩ := hgo
                obtain ⟨hcl, hcx⟩ := hyes rfl
                obtain ⟨b3, o3, rfl⟩ := row_form hE 0 rfl (by omega)
                have hltx : k < xs.length := by omega
                have f1 := SL.hid (show ∀ (l' : List HProp) (w : World), Ent l' w → rowRs (some ⟨b3, o3, none⟩) c3 C ∈ l' → _ from fun l' w h hm => load_row (t := 24) Tryd.isAgg24 Tryd.sizeOf24 h hm hlt)
                have f2 := SL.hid (show ∀ (w : World), Ent l w → _ from fun w h => (load_reads (t := 24) Tryd.isAgg24 Tryd.sizeOf24 (hk w h) hltx).1)
                have hcm := fun w => eqRsht C[k] xs[k] w
                have Hyes := SL.hid (show (C[k] == xs[k]) = true → C.take (k + 1) = xs.take (k + 1) from fun h => take_next hcx hlt hltx (by simpa using h))
                have Hno := SL.hid (show (C[k] == xs[k]) = false → (C == xs) = false from fun h => by
                  rw [beq_eq_false_iff_ne]
                  intro e
                  have : C[k] = xs[k] := by simp [e]
                  rw [this, beq_self_eq_true] at h
                  cases h)
                have Hcl := SL.hid hcl
                clear hyes hno hcx hcl
                generalize C[k] = x at *
                generalize xs[k] = y at *
                generalize hq : (x == y) = q at *
                obtain ⟨x1, x2, x3⟩ := x
                obtain ⟨y1, y2, y3⟩ := y
                clear hq
                go_wp2
                refine wp_region_held_drew (S := (fun w' => ((Instr.loadAt 24 (.pointer (some ⟨b3, o3 + k * 3, none⟩))).run Tryd.prog w' = .ok (.agg #[.int .u64 x1, .bool x2, .string ⟨x3.toArray⟩]) w') ∧ ((Instr.loadAt 24 (.pointer (some ⟨b, off + k * 3, none⟩))).run Tryd.prog w' = .ok (.agg #[.int .u64 y1, .bool y2, .string ⟨y3.toArray⟩]) w'))) (by kernel_rfl) ⟨(f1.out _ _ hE.drew (by repeat (first | exact List.Mem.head _ | refine List.Mem.tail _ ?_))), (f2.out _ (hE.drew.suf (by repeat (first | exact List.suffix_refl _ | refine List.IsSuffix.trans ?_ (List.suffix_cons _ _)))))⟩ (fun hS => ?_)
                refine takeW 0 ⟨some 122, .move (.tmp 14), 38, "law.go:69", #[], none⟩ ?_ (.inl ⟨by rfl, ?_⟩) hS ?_
                rotate_left
                · (intro w hSw; (try dsimp only at hSw); go_simp; (try with_reducible rfl))
                try simp only [Act.put, sb, s0, sz]
                refine takeW 1 ⟨some 123, .move (.tmp 15), 3, "law.go:69", #[], none⟩ ?_ (.inl ⟨by rfl, ?_⟩) hS ?_
                rotate_left
                · (intro w hSw; (try dsimp only at hSw); go_simp; (try with_reducible rfl))
                try simp only [Act.put, sb, s0, sz]
                refine takeW 2 ⟨some 124, .indexAddr 38 (.tmp 122) (.tmp 123), 0, "law.go:69", #[⟨0, .data⟩, ⟨1, .data⟩], none⟩ ?_ (.inl ⟨by rfl, ?_⟩) hS ?_
                rotate_left
                · (intro w hSw; (try dsimp only at hSw); go_simp; (try with_reducible rfl))
                try simp only [Act.put, sb, s0, sz]
                refine takeW 3 ⟨some 125, .load 24 (.tmp 124), 24, "law.go:69", #[⟨2, .data⟩], none⟩ ?_ (.inl ⟨by rfl, ?_⟩) hS ?_
                rotate_left
                · (intro w hSw; (try dsimp only at hSw); go_simp; (try with_reducible rfl))
                try simp only [Act.put, sb, s0, sz]
                refine takeW 4 ⟨some 126, .move (.tmp 2), 38, "law.go:69", #[], none⟩ ?_ (.inl ⟨by rfl, ?_⟩) hS ?_
                rotate_left
                · (intro w hSw; (try dsimp only at hSw); go_simp; (try with_reducible rfl))
                try simp only [Act.put, sb, s0, sz]
                refine takeW 5 ⟨some 127, .move (.tmp 15), 3, "law.go:69", #[], none⟩ ?_ (.inl ⟨by rfl, ?_⟩) hS ?_
                rotate_left
                · (intro w hSw; (try dsimp only at hSw); go_simp; (try with_reducible rfl))
                try simp only [Act.put, sb, s0, sz]
                refine takeW 6 ⟨some 128, .indexAddr 38 (.tmp 126) (.tmp 127), 0, "law.go:69", #[⟨4, .data⟩, ⟨5, .data⟩], none⟩ ?_ (.inl ⟨by rfl, ?_⟩) hS ?_
                rotate_left
                · (intro w hSw; (try dsimp only at hSw); go_simp; (try with_reducible rfl))
                try simp only [Act.put, sb, s0, sz]
                refine takeW 7 ⟨some 129, .load 24 (.tmp 128), 24, "law.go:69", #[⟨6, .data⟩], none⟩ ?_ (.inl ⟨by rfl, ?_⟩) hS ?_
                rotate_left
                · (intro w hSw; (try dsimp only at hSw); go_simp; (try with_reducible rfl))
                try simp only [Act.put, sb, s0, sz]
                refine takeW 8 ⟨some 130, .binOp .eql 24 (.tmp 125) (.tmp 129) 24, 4, "law.go:69", #[⟨3, .data⟩, ⟨7, .data⟩], none⟩ ?_ (.inl ⟨by rfl, ?_⟩) hS ?_
                rotate_left
                · (intro w hSw; (try dsimp only at hSw); go_simp; (try with_reducible rfl))
                try simp only [Act.put, sb, s0, sz]
                refine takeW 9 ⟨some 13, .assign (.tmp 130), 4, "law.go:69", #[⟨8, .data⟩, ⟨0, .phase⟩, ⟨1, .phase⟩, ⟨2, .phase⟩, ⟨3, .phase⟩, ⟨4, .phase⟩, ⟨5, .phase⟩, ⟨6, .phase⟩, ⟨7, .phase⟩, ⟨8, .phase⟩], none⟩ ?_ (.inl ⟨by rfl, ?_⟩) hS ?_
                rotate_left
                · (intro w hSw; (try dsimp only at hSw); go_simp; (try with_reducible rfl))
                try simp only [Act.put, sb, s0, sz]
                refine wpAnyH_done (by kernel_rfl) ?_ _
                go_wp2
                go_roundw
                case rel => exact ⟨k + 1, q, hlt, by first | rfl | simp, rfl, fun h => ⟨Hcl.out, Hyes.out h⟩, fun h => Hno.out h, hE.drew⟩
                case measure => simp [intOf] <;> omega
              · cases b with
                | true =>
                  obtain rfl : k = C.length := by
                    have : ¬ k < C.length := fun h => hgo ⟨h, rfl⟩
                    omega
                  obtain ⟨hcl, hcx⟩ := hyes rfl
                  rw [List.take_length] at hcx
                  have hjb : joinB xs = true := by rw [HJB.out, hcx, hcl, List.take_length, beq_self_eq_true]
                  have HJ : ∀ {l' : List HProp} {w : World} (i : Nat), l'[i]? = some (rowSh am cm xs) → Ent l' w → Calls Tryd.prog 19 #[.slice am xs.length cm] w (Ret fun v w' => v = .tuple #[.string ⟨T.toArray⟩, .bool true] ∧ Ent l' w') := fun i hi h => by
                    have h := Join_row (by have := Hn.out; omega) Hall.out Hsq.out h i hi
                    rw [HJT.out hjb, hjb] at h
                    exact h
                  clear hgo hyes hno hcx hcl hjb
                  go_wp2_with (first
                    | go_skip
                    | (go_at_call 19; refine (HJ 1 rfl hE).mono ?_; clear hE HJ; rintro e w7 ⟨v, rfl, rfl, hE⟩)
                    | (go_at_call 10; refine (wakes05_any ht hE.tail.tail).mono ?_; clear hE; rintro e w2 ⟨v, rfl, rfl, hE⟩))
                  go_ret
                  exact ⟨_, rfl, rfl, hE⟩
                | false =>
                  have hjb : joinB xs = false := by rw [HJB.out]; exact hno rfl
                  have HJ : ∀ {l' : List HProp} {w : World} (i : Nat), l'[i]? = some (rowSh am cm xs) → Ent l' w → Calls Tryd.prog 19 #[.slice am xs.length cm] w (Ret fun v w' => v = .tuple #[.string ⟨#[]⟩, .bool false] ∧ Ent l' w') := fun i hi h => by
                    have h := Join_row (by have := Hn.out; omega) Hall.out Hsq.out h i hi
                    rw [HJF.out hjb, hjb] at h
                    exact h
                  clear hgo hyes hno hjb
                  by_cases hkc : k < C.length
                  all_goals
                    go_wp2_with (first
                      | go_skip
                      | (go_at_call 19; refine (HJ 1 rfl hE).mono ?_; clear hE HJ; rintro e w7 ⟨v, rfl, rfl, hE⟩)
                      | (go_at_call 10; refine (wakes05_any ht hE.tail.tail).mono ?_; clear hE; rintro e w2 ⟨v, rfl, rfl, hE⟩))
                    go_ret
                    exact ⟨_, rfl, rfl, hE⟩

theorem SheetCuts_any {seq : Nat} (hs : seq < 18446744073709551616) (t : List UInt8) {xs : List Sht} (hsq : ∀ x ∈ xs, x.seq < 18446744073709551616) {ao : Option Addr} {c : Nat} {l : List HProp} {w : World} (ht : Knows l Table) (hk : Knows l (reads (.slice ao xs.length c) xs.length (xs.flatMap shC))) (hE : Ent l w) :
    Calls Tryd.prog 4 #[.int .u64 seq, .string ⟨t.toArray⟩, .slice ao xs.length c] w (Ret fun v w' => v = .bool true ∧ Ent l w') := by
  by_cases hg : 5000 < t.length ∨ 20 < xs.length
  · exact SheetCuts_great hg ht hE
  · exact SheetCuts_in hs (by omega) (by omega) hsq ht hk hE
end Go.Proofs.YtdpfigkjkjjedaaDoor
namespace Go.Proofs.YtdpfigkjkjjedaaDoor
open Go.RowKit Go.SL

theorem flip_val (ot : List UInt8) (q r : Nat) (hq : q < ot.length) (hr : r < 8) : Value.int .u8 (bits .xor .u8 (ot[q].toNat : Int) (2 ^ r % 256)) = bval (ot.getD q 0 ^^^ UInt8.ofNat (2 ^ r)) := by
  have h1 : (2 : Int) ^ r % 256 = ((2 ^ r : Nat) : Int) := by
    have : ∀ r, r < 8 → (2 : Int) ^ r % 256 = ((2 ^ r : Nat) : Int) := by decide
    exact this r hr
  have h2 : 2 ^ r < 256 := by
    have : ∀ r, r < 8 → 2 ^ r < 256 := by decide
    exact this r hr
  have h3 : (UInt8.ofNat (2 ^ r)).toNat = 2 ^ r := by simp [Nat.mod_eq_of_lt h2]
  have h4 : ot.getD q 0 = ot[q] := by simp [List.getD_eq_getElem?_getD, hq]
  have h5 := ot[q].toNat_lt
  rw [h1, u8_xor_nat _ _ (by omega) h2, h4]
  unfold bval
  rw [UInt8.toNat_xor, h3]

theorem Ent.asFlip {l : List HProp} {w : World} {ot : List UInt8} {q r c g k n : Nat} (hE : Ent (row 5 1 (.slice (some ⟨g, 0, none⟩) n c) n ((bvals ot).set q (bval (ot.getD q 0 ^^^ UInt8.ofNat (2 ^ r)))) :: l) w) (hf : flip1 ot k = ot.set q (ot.getD q 0 ^^^ UInt8.ofNat (2 ^ r))) (hn : n = ot.length := by rfl) :
    Ent (rowB (some ⟨g, 0, none⟩) c (flip1 ot k) :: l) w := by
  subst hn
  unfold rowB
  rw [hf, List.length_set]
  unfold bvals
  rw [List.map_set]
  exact hE

end Go.Proofs.YtdpfigkjkjjedaaDoor
namespace Go.Proofs.YtdpfigkjkjjedaaDoor
open Go.RowKit Go.SL

/-- the sectors that were put, each in a row of its own -/
def slv (n : Nat) (b : Option Addr × Nat) : Value := .slice b.1 n b.2
def secRows (L : List Sht) (bs : List (Option Addr × Nat)) : List HProp := (List.zip L bs).map fun p => rowB p.2.1 p.2.2 (shP p.1.seq p.1.last p.1.text)
abbrev rowSec (ao : Option Addr) (c : Nat) (bs : List (Option Addr × Nat)) : HProp := row 26 1 (.slice ao bs.length c) bs.length (bs.map (slv 512))
theorem info_bsl : elemInfo Tryd.prog 26 = some (some 1, 1, 24) := by kernel_rfl
theorem zip_snoc {α β : Type} {xs : List α} {ys : List β} (x : α) (y : β) (h : xs.length = ys.length) : List.zip (xs ++ [x]) (ys ++ [y]) = List.zip xs ys ++ [(x, y)] := by
  rw [List.zip_append h]; rfl
theorem secRows_snoc {xs : List Sht} {bs : List (Option Addr × Nat)} (x : Sht) (b : Option Addr × Nat) (h : xs.length = bs.length) : secRows (xs ++ [x]) (bs ++ [b]) = secRows xs bs ++ [rowB b.1 b.2 (shP x.seq x.last x.text)] := by
  rw [secRows, zip_snoc x b h, List.map_append]; rfl
theorem Ent.pick {A : HProp} {m l : List HProp} {w : World} (h : Ent (m ++ l) w) {i : Nat} (hi : m[i]? = some A) : Ent (A :: l) w := by
  have hlt : i < m.length := (List.getElem?_eq_some_iff.1 hi).1
  have h1 := h.front i (by rw [List.getElem?_append_left hlt]; exact hi)
  rw [List.eraseIdx_append_of_lt_length hlt] at h1
  exact (h1.perm (List.perm_middle (l₁ := m.eraseIdx i)).symm).drop
theorem secRows_at {L : List Sht} {bs : List (Option Addr × Nat)} {i : Nat} (hL : i < L.length) (hb : i < bs.length) : (secRows L bs)[i]? = some (rowB bs[i].1 bs[i].2 (shP L[i].seq L[i].last L[i].text)) := by
  rw [secRows, List.getElem?_map, List.getElem?_eq_getElem (by rw [List.length_zip]; omega)]
  simp
theorem reads_upto {ao : Option Addr} {n c : Nat} {xs : List Value} {w : World} (h : reads (.slice ao n c) n xs w) {k : Nat} (hk : k ≤ n) (m : Nat) : reads (.slice ao k c) k (xs.take m) w := by
  obtain ⟨ao', c', e, h1, h2⟩ := h
  cases e
  refine ⟨ao, c, rfl, fun h => ?_, fun ad had j u hu => ?_⟩
  · obtain ⟨h3, h4⟩ := h1 h
    rw [h4]
    exact ⟨by omega, by simp⟩
  · refine h2 ad had j u ?_
    rw [List.getElem?_take] at hu
    split at hu
    · exact hu
    · cases hu
theorem flat_take (xs : List Sht) (k : Nat) : (xs.take k).flatMap shC = (xs.flatMap shC).take (k * 3) := by
  induction xs generalizing k with
  | nil => simp
  | cons x xs ih =>
    cases k with
    | zero => simp
    | succ k =>
      rw [List.take_succ_cons, List.flatMap_cons, ih, List.flatMap_cons, List.take_append, shC_len]
      rw [List.take_of_length_le (l := shC x) (by rw [shC_len]; omega), show (k + 1) * 3 - 3 = k * 3 by omega]
/-- .. of all but the last sheet -/
theorem Join_but {L : List Sht} (hn : L.length ≤ 1000) (hx : ∀ x ∈ L, x.text.length ≤ 1000) (hsq : ∀ x ∈ L, x.seq < 18446744073709551616) {ao : Option Addr} {c : Nat} {l : List HProp} {w : World} (hE : Ent l w) (i : Nat) (hi : l[i]? = some (rowSh ao c L)) :
    Calls Tryd.prog 19 #[.slice ao (L.length - 1) c] w (Ret fun v w' => v = .tuple #[.string ⟨(joinT L.dropLast).toArray⟩, .bool (joinB L.dropLast)] ∧ Ent l w') := by
  have h := Join_any (xs := L.dropLast) (ao := ao) (c := c) (by rw [List.length_dropLast]; omega) (fun x h => hx x ((List.dropLast_sublist L).subset h)) (fun x h => hsq x ((List.dropLast_sublist L).subset h)) (l := l) (fun w h => by
    have hr := reads_row h i hi
    have h2 := reads_upto hr (k := L.length - 1) (by omega) ((L.length - 1) * 3)
    rw [← flat_take, ← List.dropLast_eq_take] at h2
    rw [List.length_dropLast]
    exact h2) hE
  rw [List.length_dropLast] at h
  exact h

theorem cutAt_0 (size : Nat) (ao : Option Addr) (c : Nat) : cutAt size ao c 0 = ao := by
  unfold cutAt
  split
  · rfl
  · cases ao with
    | none => rfl
    | some a => simp [Addr.add]
theorem cut_to {t e : TypeId} {size : Nat} (ht : Tryd.prog.underlying t = some (.slice e)) (hs : ∀ w, (Go.sizeOf e).run Tryd.prog w = .ok size w) (ao : Option Addr) (n c hi : Nat) (h2 : hi ≤ c) (w : World) :
    (Instr.sliceAt t (.slice ao n c) none (some (.int .i64 hi)) none).run Tryd.prog w = .ok (.slice ao hi c) w := by
  rw [sliceAt_slice ht, run_cut_hi ht hs ao n c .i64 hi h2, cutAt_0]
  rfl
theorem perm_move {A B C : HProp} {S R : List HProp} : (A :: B :: C :: (S ++ R)).Perm (B :: C :: ((S ++ [A]) ++ R)) := by
  have h := (List.perm_middle (a := A) (l₁ := B :: C :: S) (l₂ := R)).symm
  simpa using h
def BkRel (L : List Sht) (l : List HProp) (m s i : Value) (wr : World) : Prop :=
  ∃ (k : Nat) (am : Option Addr) (cm : Nat) (as_ : Option Addr) (cs : Nat) (bs : List (Option Addr × Nat)), k ≤ L.length ∧ i = .int .i64 k ∧ bs.length = k ∧ m = .slice am (L.take k).length cm ∧ s = .slice as_ bs.length cs ∧
    Ent (rowSh am cm (L.take k) :: rowSec as_ cs bs :: (secRows (L.take k) bs ++ l)) wr
def BtRel (b : List UInt8) (s : Nat) (l : List HProp) (ao : Option Addr) (c : Nat) (ch i : Value) (wr : World) : Prop :=
  ∃ (k : Nat) (ot : List UInt8) (cb : Bool), k ≤ 32 ∧ i = .int .i64 k ∧ ch = .bool cb ∧ Turned b s k ot cb ∧ Ent (rowB ao c ot :: l) wr

set_option maxRecDepth 100000 in
set_option maxHeartbeats 4000000 in
theorem SheetBack_great {seq : Nat} {t : List UInt8} {which at_ change : Nat} (hg : 5000 < t.length) {l : List HProp} {w : World} (ht : Knows l Table) (hE : Ent l w) :
    Calls Tryd.prog 5 #[.int .u64 seq, .string ⟨t.toArray⟩, .int .u8 which, .int .u16 at_, .int .u32 change] w (Ret fun v w' => v = .bool true ∧ Ent l w') := by
  have hd : decide ((5000 : Int) < (t.length : Int)) = true := decide_eq_true (by omega)
  go_enter Tryd.func5, Tryd.ntmps5
  go_wp2_with (first
    | go_skip
    | (go_at_call 10; refine (wakes05_any ht hE).mono ?_; clear hE; rintro e w2 ⟨v, rfl, rfl, hE⟩))
  go_ret
  exact ⟨_, rfl, rfl, hE⟩

set_option maxRecDepth 100000 in
set_option maxHeartbeats 8000000 in
theorem SheetBack_in {seq : Nat} (hs : seq < 18446744073709551616) {t : List UInt8} (h5 : t.length ≤ 5000) {which at_ change : Nat} (hw : which < 256) (ha : at_ < 65536) (hc : change < 4294967296) {l : List HProp} {w : World} (ht : Knows l Table) (hE : Ent l w) :
    Calls Tryd.prog 5 #[.int .u64 seq, .string ⟨t.toArray⟩, .int .u8 which, .int .u16 at_, .int .u32 change] w (Ret fun v w' => v = .bool true ∧ Ent l w') := by
  have hd : decide ((5000 : Int) < (t.length : Int)) = false := decide_eq_false (by omega)
  have HC : ∀ {l : List HProp} {w : World}, Ent l w → _ := fun {l w} h => Cut_any (seq := seq) hs (t := t) (by omega) (l := l) (w := w) h
  have HLn := SL.hid (cutL_len seq t)
  have HLa := SL.hid (show ∀ k (h : k < (cutL seq t).length), (cutL seq t)[k] = pieceAt seq t k from fun k h => cutL_at h)
  have HLl := SL.hid (show (cutL seq t).length ≤ 1000 by rw [cutL_len]; unfold needN; omega)
  have HLp := SL.hid (show 0 < (cutL seq t).length by rw [cutL_len]; exact needN_pos _)
  have HJ1 := SL.hid (join_cut (t := t) hs)
  have HJ2 := SL.hid (join_short (seq := seq) (t := t))
  have HLx := SL.hid (show ∀ x ∈ cutL seq t, x.text.length ≤ 497 ∧ x.seq < 18446744073709551616 from fun x hx => by
    simp only [cutL, List.mem_map, List.mem_range] at hx
    obtain ⟨k, _, rfl⟩ := hx
    exact ⟨piece_len _ _ _, piece_seq _ _ _⟩)
  generalize cutL seq t = L at *
  go_enter Tryd.func5, Tryd.ntmps5
  go_wp2_with (first
    | go_skip
    | (go_at_call 16; refine (HC hE).mono ?_; clear hE HC; rintro e w2 ⟨v, rfl, a1, c1, rfl, hE⟩))
  clear hd
  go_loopw [12, 13, 14] (fun m s i wr => BkRel L (rowSh a1 c1 L :: l) m s i wr) (fun _ _ i _ => L.length - (intOf i).toNat)
  case atStart => exact ⟨0, none, 0, none, 0, [], Nat.zero_le _, rfl, rfl, rfl, rfl, (hE.nil _ _).nil _ _⟩
  case round =>
    clear hE
    obtain ⟨k, am, cm, as_, cs, bs, hkl, rfl, hbl, rfl, rfl, hE⟩ := hrel
    have hLl := HLl.out
    by_cases hlt : k < L.length
    · have htl : (L.take k).length = k := by rw [List.length_take]; omega
      have hEr : Ent (rowSh a1 c1 L :: l) wr := by
        have := hE.tail.tail.drop
        exact this
      obtain ⟨b, off, rfl, hx⟩ := sht_at (reads_row hEr 0 rfl) hlt
      have Ht := SL.hid (List.take_succ_eq_append_getElem hlt)
      have Hx := SL.hid (HLx.out _ (List.getElem_mem hlt))
      have hp := HLa.out k hlt
      have hseq : IntKind.u64.wrap ((seq : Int) + (k : Int)) = (L[k].seq : Int) := by
        rw [hp]
        show _ = (((seq + k) % 18446744073709551616 : Nat) : Int)
        simp only [IntKind.wrap, IntKind.bits, IntKind.signed]
        simp
      have hlast : ((k : Int) == (L.length : Int) - 1) = L[k].last := by
        rw [hp]
        show _ = decide (k + 1 = needN t.length)
        rw [← HLn.out, Bool.eq_iff_iff]
        simp only [beq_iff_eq, decide_eq_true_eq]
        omega
      have hwk : IntKind.u64.wrap (k : Int) = k := wrapU_id (by omega)
      clear hEr hp
      generalize L[k] = x at *
      obtain ⟨x1, x2, x3⟩ := x
      obtain ⟨hx3, hx1⟩ := Hx.out
      clear Hx
      have Hsl := SL.hid (shP_len (seq := x1) (last := x2) hx3)
      have HP : ∀ {l : List HProp} {w : World}, Knows l Table → Ent l w → Calls Tryd.prog 11 #[.agg #[.int .u64 x1, .bool x2, .string ⟨x3.toArray⟩]] w (Ret fun v w' => ∃ ao c, v = .tuple #[.slice ao 512 c, .int .i64 0] ∧ Ent (rowB ao c (shP x1 x2 x3) :: l) w') := fun h1 h2 => by
        rw [← Hsl.out]
        exact sPut_ok x2 hx1 hx3 h1 h2
      have HT : ∀ {l : List HProp} {w : World} {ao : Option Addr} {c : Nat}, Knows l Table → Ent (rowB ao c (shP x1 x2 x3) :: l) w → Calls Tryd.prog 14 #[.slice ao 512 c] w (Ret fun v w' => v = .tuple #[.agg #[.int .u64 x1, .bool x2, .string ⟨x3.toArray⟩], .int .i64 0] ∧ Ent (rowB ao c (shP x1 x2 x3) :: l) w') := fun {l w ao c} h1 h2 => by
        have h := sTake_any (b := shP x1 x2 x3) (ao := ao) (c := c) (by rw [Hsl.out]; omega) h1.cons (fun _ h => reads_row h 0 rfl) h2
        have e := rdOk_shP (last := x2) hx1 hx3
        rw [resS, resSE, e, if_pos rfl, if_pos rfl, (rd_shP hx1 hx3).1] at h
        rw [← Hsl.out]
        exact h
      have HK : Knows (rowSh am cm (L.take k) :: rowSec as_ cs bs :: (secRows (L.take k) bs ++ (rowSh (some ⟨b, off, none⟩) c1 L :: l))) Table := (Knows.append (m := secRows (L.take k) bs) ht.cons).cons.cons
      have Hsr := SL.hid (secRows_snoc (xs := L.take k) (bs := bs) ⟨x1, x2, x3⟩)
      simp only at hseq hlast Hsr
      generalize shP x1 x2 x3 = sp at *
      have Hbl := SL.hid hbl
      have Htl := SL.hid htl
      clear hbl htl
      generalize L.take k = pre at *
      generalize secRows pre bs = S at *
      go_wp2_with (first
        | go_skip
        | ((with_reducible (show Go.wpList _ _ _ (Go.Oper.mk _ (.load 30 (.tmp 45)) _ _ _ _ :: _) _ _)); refine wpl_loadC rfl rfl rfl Tryd.isAgg30 Tryd.sizeOf30 [.int .u64 x1, .bool x2, .string ⟨x3.toArray⟩] rfl hx ?_)
        | (go_at_call 11; refine (HP HK hE).mono ?_; clear hE HP; rintro e w3 ⟨v, rfl, ap, cp, rfl, hE⟩)
        | (go_at_call 14; refine (HT HK hE).mono ?_; clear hE HT; rintro e w4 ⟨v, rfl, rfl, hE⟩)
        | ((with_reducible (show Go.wpList _ _ _ (Go.Oper.mk _ (.alloc _) _ _ _ _ :: _) _ _)); refine wpl_allocN hE rfl rfl (n := 3) zs_sht ?_; clear hE; intro b17 cs9 w5 hq hE)
        | ((with_reducible (show Go.wpList _ _ _ (Go.Oper.mk _ (.store _ _ _) _ _ _ _ :: _) _ _)); refine wpl_storeN hE 0 rfl rfl rfl rfl (xs := [.int .u64 x1, .bool x2, .string ⟨x3.toArray⟩]) rfl Tryd.sizeOf30 rfl (by simp [Value.oneCell']) hq ?_; clear hE hq; intro w6 hE; simp only [List.set_cons_zero] at hE)
        | ((with_reducible (show Go.wpList _ _ _ (Go.Oper.mk _ (.load 30 (.tmp 17)) _ _ _ _ :: _) _ _)); refine wpl_loadW hE 0 rfl rfl rfl rfl Tryd.isAgg30 Tryd.sizeOf30 rfl ?_)
        | ((with_reducible (show Go.wpList _ _ _ (Go.Oper.mk _ (.load 22 _) _ _ _ _ :: _) _ _)); refine wpl_load1 hE 0 rfl rfl rfl rfl (by simp [go_sem]) rfl ?_)
        | ((with_reducible (show Go.wpList _ _ _ (Go.Oper.mk _ (.load 4 _) _ _ _ _ :: _) _ _)); refine wpl_load1 hE 0 rfl rfl rfl rfl (by simp [go_sem]) rfl ?_)
        | ((with_reducible (show Go.wpList _ _ _ (Go.Oper.mk _ (.buildSlice 39 _ _) _ _ _ _ :: _) _ _)); refine wpl_build1 hE rfl rfl (xs := [.int .u64 x1, .bool x2, .string ⟨x3.toArray⟩]) rfl Tryd.underlying39 zs_sht Tryd.sizeOf30 (by decide) (by decide) rfl ?_; clear hE; intro b9 w7 hE)
        | ((with_reducible (show Go.wpList _ _ _ (Go.Oper.mk _ (.call { callee := .builtin .append, args := _, argTypes := #[39, 39] }) _ _ _ _ :: _) _ _)); refine wpl_appendG hE 3 rfl rfl rfl rfl rfl Tryd.underlying39 info_sht (by decide) (m := 1) (news := shC ⟨x1, x2, x3⟩) (reads_pt hE 0 rfl (off := 0) (fun j u hu => by rw [Nat.zero_add, List.getElem?_toArray]; exact hu)) rfl (shC_one _) (by have := Htl.out; omega) (by have := Htl.out; omega) ?_; clear hE; intro am' cm' w8 hE; simp only [List.set_cons_zero, List.set_cons_succ] at hE)
        | ((with_reducible (show Go.wpList _ _ _ (Go.Oper.mk _ (.call { callee := .builtin .append, args := _, argTypes := #[48, 48] }) _ _ _ _ :: _) _ _)); have hE9 := hE.alloc (.cells #[.slice ap 512 cp] 26); refine wpl_appendG hE9 5 rfl rfl rfl rfl rfl Tryd.underlying48 info_bsl (by decide) (m := 1) (news := [.slice ap 512 cp]) (reads_pt hE9 0 rfl (off := 0) (fun j u hu => by rw [Nat.zero_add, List.getElem?_toArray]; exact hu)) rfl (by simp [Value.oneCell']) (by have := Hbl.out; omega) (by have := Hbl.out; omega) ?_; clear hE9 hE; intro as' cs' w9 hE; simp only [List.set_cons_zero, List.set_cons_succ] at hE))
      go_roundw
      case rel =>
        have e1 : (pre ++ [(⟨x1, x2, x3⟩ : Sht)]).length = pre.length + 1 := by simp
        have e2 : (pre ++ [(⟨x1, x2, x3⟩ : Sht)]).flatMap shC = pre.flatMap shC ++ shC ⟨x1, x2, x3⟩ := by simp
        have e3 : (bs ++ [(ap, cp)]).length = bs.length + 1 := by simp
        have e4 : (bs ++ [(ap, cp)]).map (slv 512) = bs.map (slv 512) ++ [.slice ap 512 cp] := by simp [slv]
        refine ⟨k + 1, am', cm', as', cs', bs ++ [(ap, cp)], hlt, by first | rfl | simp, by rw [e3, Hbl.out], by rw [Ht.out, e1], by rw [e3], ?_⟩
        rw [Ht.out]
        have hS := Hsr.out (ap, cp) (by rw [Htl.out, Hbl.out])
        rw [hS]
        simp only [rowSh, rowSec, e1, e2, e3, e4]
        exact (hE.tail.tail.tail).perm perm_move
      case measure => simp [intOf] <;> omega
    · obtain rfl : k = L.length := by omega
      rw [List.take_length] at hE ⊢
      have hcap := row_capG hE 0 rfl
      obtain ⟨bS, oS, rfl, _⟩ := reads_form (reads_row hE 1 rfl) (by have := HLp.out; omega) (by rw [List.length_map]; have := HLp.out; omega)
      have hjL : which % L.length < L.length := Nat.mod_lt _ HLp.out
      have hjb : which % L.length < bs.length := by omega
      have HG : ∀ w, Ent (rowSh am cm L :: rowSec (some ⟨bS, oS, none⟩) cs bs :: (secRows L bs ++ (rowSh a1 c1 L :: l))) w → w.cell? ⟨bS, oS + which % L.length, none⟩ = some (.slice bs[which % L.length].1 512 bs[which % L.length].2) ∧ Ent (rowB bs[which % L.length].1 bs[which % L.length].2 (shP L[which % L.length].seq L[which % L.length].last L[which % L.length].text) :: l) w := fun w hE => by
        refine ⟨?_, ((Ent.pick hE.tail.tail (secRows_at (L := L) (bs := bs) hjL hjb)).front 1 rfl).tail⟩
        obtain ⟨b', o', e, h⟩ := reads_form (reads_row hE 1 rfl) (by have := HLp.out; omega) (by rw [List.length_map]; have := HLp.out; omega)
        cases e
        exact h _ _ (by rw [List.getElem?_map, List.getElem?_eq_getElem hjb]; rfl)
      have hxj := HLx.out _ (List.getElem_mem hjL)
      generalize bs[which % L.length] = q at HG
      generalize L[which % L.length] = x at HG hxj
      obtain ⟨qa, qc⟩ := q
      obtain ⟨x1, x2, x3⟩ := x
      obtain ⟨hx3, hx1⟩ := hxj
      clear hjb
      have htm : (which : Int).tmod (L.length : Int) = ((which % L.length : Nat) : Int) := by
        rw [Int.tmod_eq_emod_of_nonneg (Int.natCast_nonneg _)]
        rfl
      have hwj : IntKind.i64.wrap ((which % L.length : Nat) : Int) = ((which % L.length : Nat) : Int) := wrap_id (by omega)
      have HJ : ∀ {l' : List HProp} {w : World} (i : Nat), l'[i]? = some (rowSh am cm L) → Ent l' w → Calls Tryd.prog 19 #[.slice am L.length cm] w (Ret fun v w' => v = .tuple #[.string ⟨t.toArray⟩, .bool true] ∧ Ent l' w') := fun i hi h => by
        have h := Join_row HLl.out (fun x hx => by have := (HLx.out x hx).1; omega) (fun x hx => (HLx.out x hx).2) h i hi
        rw [HJ1.out.1, HJ1.out.2] at h
        exact h
      have HJs : ∀ {l' : List HProp} {w : World} (i : Nat), l'[i]? = some (rowSh am cm L) → Ent l' w → Calls Tryd.prog 19 #[.slice am (L.length - 1 : Nat) cm] w (Ret fun v w' => ∃ r, v = .tuple #[.string r, .bool false] ∧ Ent l' w') := fun i hi h => by
        have h := Join_but HLl.out (fun x hx => by have := (HLx.out x hx).1; omega) (fun x hx => (HLx.out x hx).2) h i hi
        rw [HJ2.out] at h
        refine h.mono ?_
        rintro e w' ⟨v, rfl, rfl, h⟩
        exact ⟨_, rfl, _, rfl, h⟩
      have hn1 : IntKind.i64.wrap ((L.length : Int) - 1) = ((L.length - 1 : Nat) : Int) := by rw [wrap_id (by have := HLp.out; omega)]; have := HLp.out; omega
      have hn1' : (L.length : Int) - 1 = ((L.length - 1 : Nat) : Int) := by have := HLp.out; omega
      have hsl := fun w => cut_to (t := 39) Tryd.underlying39 Tryd.sizeOf30 am L.length cm (L.length - 1) (by omega) w
      have hl0 : ((L.length : Int) == 0) = false := by rw [beq_eq_false_iff_ne]; have := HLp.out; omega
      have Hbl := SL.hid hbl
      have hbl' : (bs.length : Int) = (L.length : Int) := by omega
      clear hbl HLa HLx HJ1 HJ2 hkl hlt HLn
      generalize L.length - 1 = n1 at *
      generalize which % L.length = j at *
      have Hsl := SL.hid (shP_len (seq := x1) (last := x2) hx3)
      go_wp2_with (first
        | go_skip
        | (go_at_call 19; refine (HJ 0 rfl hE).mono ?_; clear HJ; rintro e w3 ⟨v, rfl, rfl, hE3⟩)
        | (go_at_call 19; refine (HJs 0 rfl hE3).mono ?_; clear HJs; rintro e w4 ⟨v, rfl, r, rfl, hE4⟩; obtain ⟨hcj, hF⟩ := HG _ hE4; clear HG hE4 hE3))
      have HbL := SL.hid (show (shP x1 x2 x3).length = 512 from Hsl.out)
      have HTt := SL.hid (fun (s i : Nat) (ot : List UInt8) (ch : Bool) (h : Turned (shP x1 x2 x3) s i ot ch) => Turned.tells hx1 hx3 h)
      generalize shP x1 x2 x3 = sb at *
      go_loopw [24, 25] (fun ch i wr => BtRel sb (at_ % 4096) l qa qc ch i wr) (fun _ i _ => 32 - (intOf i).toNat)
      case atStart => exact ⟨0, sb, false, by omega, rfl, rfl, Turned.start _ _, hF⟩
      case round =>
        obtain ⟨k, ot, cb, hk32, rfl, rfl, hT, hE⟩ := hrel
        have HbC := hk32
        have htm : (at_ : Int).tmod 4096 = ((at_ % 4096 : Nat) : Int) := by
          rw [Int.tmod_eq_emod_of_nonneg (Int.natCast_nonneg _)]
          rfl
        have hsp : at_ % 4096 < 4096 := Nat.mod_lt _ (by decide)
        have hlen := hT.1
        have hb5 := HbL.out
        generalize at_ % 4096 = s at *
        by_cases hgo : k < 32
        · clear HbC
          cases hin : decide (((s : Int) + (k : Int)) < 4096) with
          | false =>
            go_wp2_with (first | go_skip)
            go_roundw
            case rel => exact ⟨k + 1, ot, cb, hgo, by simp, rfl, hT.skip, hE⟩
            case measure => simp [intOf]; omega
          | true =>
            cases hbit : (bits .and .u32 ((change : Int) / 2 ^ k) 1 == 1) with
            | false =>
              go_wp2_with (first | go_skip)
              go_roundw
              case rel => exact ⟨k + 1, ot, cb, hgo, by simp, rfl, hT.skip, hE⟩
              case measure => simp [intOf]; omega
            | true =>
              have hin2 : s + k < 4096 := by have := of_decide_eq_true hin; omega
              have hq : ((s : Int) + (k : Int)).tdiv 8 = (((s + k) / 8 : Nat) : Int) := by
                rw [Int.tdiv_eq_ediv_of_nonneg (by omega)]
                omega
              have hr : ((s : Int) + (k : Int)).tmod 8 = (((s + k) % 8 : Nat) : Int) := by
                rw [Int.tmod_eq_emod_of_nonneg (by omega)]
                omega
              have hq2 : ((s : Int) + (k : Int)) / 8 = (((s + k) / 8 : Nat) : Int) := by omega
              have hr2 : ((s : Int) + (k : Int)) % 8 = (((s + k) % 8 : Nat) : Int) := by omega
              obtain ⟨g, cap, cur, hv, hn1, hm1, hs1, ht1, hE2⟩ := hE.fromRow 0 rfl (by omega)
              have hq8 : (s + k) / 8 < ot.length := by omega
              have hr8 : (s + k) % 8 < 8 := by omega
              have hcell : wr.cell? ⟨g, (s + k) / 8, none⟩ = some (bval (ot.getD ((s + k) / 8) 0)) := by
                rw [hE2.cell 0 rfl]
                have h5 : (cur.toList.take (ot.length * 1))[(s + k) / 8]? = some (bval (ot.getD ((s + k) / 8) 0)) := by
                  rw [ht1]
                  simp [bvals, List.getD_eq_getElem?_getD, hq8]
                rw [List.getElem?_take_of_lt (by omega)] at h5
                simpa using h5
              have hfz : wr.frozen? ⟨g, (s + k) / 8, none⟩ = false := hE2.frozen 0 rfl _
              rw [hlen, hb5] at hv
              cases hv
              unfold bval at hcell
              have hT2 := SL.hid (hT.turn hgo (by omega))
              have hf : flip1 ot (s + k) = ot.set ((s + k) / 8) (ot.getD ((s + k) / 8) 0 ^^^ UInt8.ofNat (2 ^ ((s + k) % 8))) := rfl
              have hq512 : (s + k) / 8 < 512 := by omega
              have hqi : (((s + k) / 8 : Nat) : Int) < 512 := by omega
              generalize (s + k) / 8 = q at *
              generalize (s + k) % 8 = r at *
              have Hf := SL.hid hf
              clear hf
              have Hv := SL.hid (flip_val ot q r hq8 hr8)
              have hwq : IntKind.i64.wrap ((q : Nat) : Int) = (q : Int) := by
                simp only [IntKind.wrap, IntKind.bits, IntKind.signed]
                simp
                omega
              go_wp2_with (first | go_skip)
              go_region_law (fail)
              all_goals
                have hE3 := (hE2.setCell 0 rfl q (bval (ot.getD q 0 ^^^ UInt8.ofNat (2 ^ r)))).drew
                have hE4 := hE3.backRow 0 rfl hn1 hm1 hs1 ht1
                replace hE4 := Ent.asFlip hE4 Hf.out
                clear hE3 hE2 hE
                go_wp2
                go_roundw
                case rel =>
                  have e := Hv.out
                  rw [e]
                  refine ⟨k + 1, flip1 ot (s + k), true, hgo, by simp, rfl, hT2.out, ?_⟩
                  simpa [hlen, hb5] using hE4
                case measure => simp [intOf]; omega
        · obtain rfl : k = 32 := by omega
          have hz := HTt.out s 32 ot cb hT
          have HTk : Calls Tryd.prog 14 #[.slice qa 512 qc] wr (Ret fun v w' => v = .tuple #[shV (resS ot), .int .i64 (resSE ot)] ∧ Ent l w') := by
            have h := sTake_any (b := ot) (by omega) ht.cons (fun w h => reads_row h 0 rfl) hE
            rw [hlen, hb5] at h
            refine h.mono ?_
            rintro e w' ⟨v, rfl, rfl, h⟩
            exact ⟨_, rfl, rfl, h.tail⟩
          have hre : resSE ot = if rdOk ot then 0 else 3 := rfl
          rw [hz] at hre
          generalize resS ot = z at HTk
          obtain ⟨z1, z2, z3⟩ := z
          cases cb <;> simp only [Bool.not_false, Bool.not_true, if_true, Bool.false_eq_true, if_false] at hre <;> rw [hre] at HTk <;> simp only [shV] at HTk
          all_goals
            go_wp2_with (first
              | go_skip
              | (go_at_call 14; refine HTk.mono ?_; clear HTk; rintro e w5 ⟨v, rfl, rfl, hE5⟩)
              | (go_at_call 10; refine (wakes05_any ht (hE5.alloc _).tail).mono ?_; rintro e w6 ⟨v, rfl, rfl, hE6⟩))
            go_ret
            exact ⟨_, rfl, rfl, hE6⟩

theorem SheetBack_any {seq : Nat} (hs : seq < 18446744073709551616) (t : List UInt8) {which at_ change : Nat} (hw : which < 256) (ha : at_ < 65536) (hc : change < 4294967296) {l : List HProp} {w : World} (ht : Knows l Table) (hE : Ent l w) :
    Calls Tryd.prog 5 #[.int .u64 seq, .string ⟨t.toArray⟩, .int .u8 which, .int .u16 at_, .int .u32 change] w (Ret fun v w' => v = .bool true ∧ Ent l w') := by
  by_cases h : 5000 < t.length
  · exact SheetBack_great h ht hE
  · exact SheetBack_in hs (by omega) hw ha hc ht hE
theorem SheetBack_int {seq which at_ change : Int} (hs : 0 ≤ seq ∧ seq ≤ 18446744073709551615) (t : ByteArray) (hw : 0 ≤ which ∧ which ≤ 255) (ha : 0 ≤ at_ ∧ at_ ≤ 65535) (hc : 0 ≤ change ∧ change ≤ 4294967295) {l : List HProp} {w : World} (ht : Knows l Table) (hE : Ent l w) :
    Calls Tryd.prog 5 #[.int .u64 seq, .string t, .int .u8 which, .int .u16 at_, .int .u32 change] w (Ret fun v w' => v = .bool true ∧ Ent l w') := by
  obtain ⟨n, rfl⟩ := Int.eq_ofNat_of_zero_le hs.1
  obtain ⟨p, rfl⟩ := Int.eq_ofNat_of_zero_le hw.1
  obtain ⟨q, rfl⟩ := Int.eq_ofNat_of_zero_le ha.1
  obtain ⟨r, rfl⟩ := Int.eq_ofNat_of_zero_le hc.1
  exact SheetBack_any (by omega) t.data.toList (by omega) (by omega) (by omega) ht hE
end Go.Proofs.YtdpfigkjkjjedaaDoor
namespace Go.Proofs.YtdpfigkjkjjedaaDoor
open Go.RowKit Go.SL
attribute [local go_sem] Oper.semAt_some wide_fn wide_depth

abbrev rowRec (ao : Option Addr) (c : Nat) (xs : List (Nat × Rec)) : HProp := row 71 34 (.slice ao xs.length c) xs.length (xs.flatMap rcells)
theorem info_rec : elemInfo Tryd.prog 71 = some (some 34, 34, 56) := by kernel_rfl
theorem zs_rec : zeroSize Tryd.prog 71 = some 34 := by kernel_rfl
def wkI (b7 : Nat) (l : List HProp) (pre : List (Nat × Rec)) : List HProp :=
  (ex fun z : Option Addr × Nat => [pt b7 (.cells #[.slice z.1 pre.length z.2] 67), rowRec z.1 z.2 pre]) :: l

theorem recB_ge {rs : List Rec} (hok : ∀ r ∈ rs, r.ok) : rs.length * 34 ≤ (recB rs).length := by
  induction rs with
  | nil => simp
  | cons r rs ih =>
    have h1 := ih fun x hx => hok x (by simp [hx])
    rw [recB_cons, List.length_append, rcP_len (hok r (by simp)).1, List.length_cons]
    omega
set_option maxRecDepth 100000 in
set_option maxHeartbeats 4000000 in
theorem Walk_known {rs : List Rec} (hok : ∀ r ∈ rs, r.ok) {bs z : List UInt8} (hbs : bs = recB rs ++ z) (hlen : bs.length ≤ 1000000) {ao : Option Addr} {c : Nat} (hc : bs.length ≤ c) {l : List HProp} {w : World} (hk : Knows l (reads (.slice ao bs.length c) bs.length (bvals bs))) (hE : Ent l w) :
    Calls Tryd.prog 27 #[.slice ao bs.length c, .int .i64 (recB rs).length] w (Ret fun v w' => ∃ ao' c', v = .tuple #[.slice ao' (offs 0 rs).length c', .int .i64 0] ∧ Ent (rowRec ao' c' (offs 0 rs) :: l) w') := by
  have hub : (recB rs).length ≤ bs.length := by rw [hbs, List.length_append]; omega
  have hct := fun w => cut_to (w := w) Tryd.underlying26 Tryd.sizeOf5 ao bs.length c (recB rs).length (by omega)
  have hk2 : Knows l (reads (.slice ao (recB rs).length c) (recB rs).length (bvals (recB rs))) := fun w hw => by
    have h := reads_upto (hk w hw) hub (recB rs).length
    rw [hbs, bvals_append, List.take_left' (bvals_length _)] at h
    exact h
  have hd1 : decide (((recB rs).length : Int) < 0) = false := decide_eq_false (by omega)
  have hd2 : ¬ bs.length < (recB rs).length := by omega
  have Hit := SL.hid (show (recB rs).length ≤ 1000000 by omega)
  have Hof := SL.hid (show (offs 0 rs).length ≤ 1000000 by
    rw [offs_len]
    have := recB_ge hok
    omega)
  have HO : ∀ {w : World}, Ent l w → Calls Tryd.prog 52 #[.slice ao (recB rs).length c] w (Ret fun v w' => ∃ o, v = .pointer (some ⟨o, 0, none⟩) ∧ Ent (opener o (recB rs) 0 :: l) w') := fun h => Of_any h hk2 (by omega)
  have HW := SL.hid (walk_iter hok Hit.out)
  generalize (recB rs).length = u at *
  generalize bs.length = n at *
  clear hbs hub hlen hk hc hk2
  refine calls_of_marks Tryd.func27 rfl ?_
  simp only [Tryd.ntmps27, List.size_toArray, List.length_cons, List.length_nil, Nat.reduceAdd, Nat.reduceSub, Array.replicate_succ, Array.replicate_zero, List.push_toArray, List.append_toArray, List.nil_append, List.cons_append]
  go_wp2_with (first
    | go_skip
    | (go_at_call 52; refine (HO hE).mono ?_; clear hE HO; rintro e w2 ⟨v, rfl, o, rfl, hE⟩)
    | ((with_reducible (show Go.wpList _ _ _ (Go.Oper.mk _ (.alloc _) _ _ _ _ :: _) _ _)); refine wpl_alloc hE rfl rfl (by simp [go_sem]; rfl) ?_; clear hE; intro b7 w hE; simp only [Act.eval, Act.put, List.setIfInBounds_toArray, List.set_cons_zero, List.set_cons_succ, getD_lit, List.getD_cons_succ, List.getD_cons_zero, Value.cells] at hE)
    | (go_at_call 65; refine (walk_any o hE).mono ?_; clear hE; rintro e w3 ⟨v, rfl, b, rfl, hE⟩))
  refine wpIn_wide.1 (wpIn_rangeSLBe (gf := 106) rfl (enters_of Tryd.func106 (by kernel_rfl) rfl) (HW.out b o) (fun _ => rfl) (wkI b7 l) (fun _ _ => [ex fun _ : False => []]) ?e0
    (fun (x : Nat × Rec) (b8 : Nat) => { tmps := #[.slice ao n c, .int .i64 u, undef, undef, .slice none 0 0, .int .i64 0, .pointer (some ⟨o, 0, none⟩), .pointer (some ⟨b7, 0, none⟩), .pointer (some ⟨b8, 0, none⟩), .int .i64 u, .bool false, .bool false, .int .i64 u, .slice ao n c, .int .i64 n, .bool false, .bool false, .slice ao n c, .int .i64 u, .slice ao u c, .pointer (some ⟨o, 0, none⟩), .pointer (some ⟨o, 0, none⟩), .func (.func 106) #[] #[.pointer (some ⟨b, 0, none⟩)], recV x, undef, undef, undef, undef, undef, undef, undef, undef], defers := [] })
    (fun (x : Nat × Rec) (b8 : Nat) => [pt b8 (.cells (rcells x).toArray 71)]) ?assign ?body ?done ?stop)
  case e0 =>
    have h := ((hE.nil 71 34).front 2 rfl)
    have h2 := Ent.pack (f := fun z : Option Addr × Nat => [pt b7 (.cells #[.slice z.1 ([] : List (Nat × Rec)).length z.2] 67), rowRec z.1 z.2 []]) (none, 0) h
    exact (h2.front 2 rfl).front 2 rfl
  case assign =>
    intro lp x W L KK hL hKK
    simp only [List.zip_toArray, List.zip_cons_cons, List.zip_nil_right, List.foldl_toArray', List.size_toArray, List.length_cons, List.length_nil, List.foldl_cons, List.foldl_nil, List.setIfInBounds_toArray, List.set_cons_succ, List.set_cons_zero]
    gi_wp2_with (first
      | (refine wplIn_one rfl rfl rfl (by intro c h; cases h) (by rintro ⟨_, _, h⟩; exact h) ?_; (with_reducible (show Go.wpList _ _ _ (Go.Oper.mk _ (.alloc _) _ _ _ _ :: _) _ _)); refine wpl_allocN hL rfl rfl (n := 34) zs_rec ?_; clear hL; intro b8 cs w1 hq hL; refine wplIn_nil ?_)
      | (refine wplIn_one rfl rfl rfl (by intro c h; cases h) (by rintro ⟨_, _, h⟩; exact h) ?_; (with_reducible (show Go.wpList _ _ _ (Go.Oper.mk _ (.store _ _ _) _ _ _ _ :: _) _ _)); refine wpl_storeN hL 0 rfl rfl rfl rfl (xs := rcells x) rfl Tryd.sizeOf71 (rcells_len x) (rcells_one x) hq ?_; clear hL hq; intro w2 hL; simp only [List.set_cons_zero] at hL; refine wplIn_nil ?_))
    exact hL
  case body =>
    intro lp pre x b8 W L hpre hW
    obtain ⟨⟨ao, c⟩, hW'⟩ := (hW.front 1 rfl).unpack
    replace hW : Ent (pt b7 (.cells #[.slice ao pre.length c] 67) :: rowRec ao c pre :: pt b8 (.cells (rcells x).toArray 71) :: (l ++ L)) W := hW'
    clear hW'
    have hpl : pre.length + 1 ≤ 1000000 := by have := hpre.length_le; have := Hof.out; simp at *; omega
    gi_wp2_with (first
      | (refine wplIn_one rfl rfl rfl (by intro c h; cases h) (by rintro ⟨_, _, h⟩; exact h) ?_; (with_reducible (show Go.wpList _ _ _ (Go.Oper.mk _ (.load 67 _) _ _ _ _ :: _) _ _)); refine wpl_load1 hW 0 rfl rfl rfl rfl (by simp [go_sem]) rfl ?_; refine wplIn_nil ?_)
      | (refine wplIn_one rfl rfl rfl (by intro c h; cases h) (by rintro ⟨_, _, h⟩; exact h) ?_; (with_reducible (show Go.wpList _ _ _ (Go.Oper.mk _ (.load 71 _) _ _ _ _ :: _) _ _)); refine wpl_loadW hW 2 rfl rfl rfl rfl Tryd.isAgg71 Tryd.sizeOf71 (rcells_len x) ?_; refine wplIn_nil ?_)
      | (refine wplIn_one rfl rfl rfl (by intro c h; cases h) (by rintro ⟨_, _, h⟩; exact h) ?_; (with_reducible (show Go.wpList _ _ _ (Go.Oper.mk _ (.buildSlice _ _ _) _ _ _ _ :: _) _ _)); refine wpl_build1 hW rfl rfl (xs := rcells x) rfl Tryd.underlying67 zs_rec Tryd.sizeOf71 (by decide) (by decide) (rcells_len x) ?_; clear hW; intro b9 w3 hW; refine wplIn_nil ?_)
      | (refine wplIn_one rfl rfl rfl (by intro c h; cases h) (by rintro ⟨_, _, h⟩; exact h) ?_; (with_reducible (show Go.wpList _ _ _ (Go.Oper.mk _ (.call { callee := .builtin .append, args := _, argTypes := _ }) _ _ _ _ :: _) _ _)); refine wpl_appendG hW 2 rfl rfl rfl rfl rfl Tryd.underlying67 info_rec (by decide) (m := 1) (news := rcells x) (reads_pt hW 0 rfl (off := 0) (fun j u hu => by rw [Nat.zero_add, List.getElem?_toArray]; exact hu)) (rcells_len x) (rcells_one x) (by omega) (by omega) ?_; clear hW; intro ao' c' w6 hW; simp only [List.set_cons_zero, List.set_cons_succ] at hW; refine wplIn_nil ?_)
      | (refine wplIn_one rfl rfl rfl (by intro c h; cases h) (by rintro ⟨_, _, h⟩; exact h) ?_; (with_reducible (show Go.wpList _ _ _ (Go.Oper.mk _ (.store _ _ _) _ _ _ _ :: _) _ _)); refine wpl_st1 hW 1 rfl rfl rfl rfl rfl (by first | (simp [go_sem]; done) | (simp [go_sem]; rfl)) rfl rfl (by simp) ?_; clear hW; intro w hW; simp only [Act.eval, getD_lit, List.getD_cons_succ, List.getD_cons_zero, List.set_cons_zero, List.set_cons_succ] at hW; refine wplIn_nil ?_))
    have hF := (hW.tail.erase 2)
    have e1 : (pre ++ [x]).length = pre.length + 1 := by simp
    have e2 : (pre ++ [x]).flatMap rcells = pre.flatMap rcells ++ rcells x := by simp
    exact Ent.pack (f := fun z : Option Addr × Nat => [pt b7 (.cells #[.slice z.1 (pre ++ [x]).length z.2] 67), rowRec z.1 z.2 (pre ++ [x])]) (ao', c') (by simp only [rowRec, e1, e2]; exact hF)
  case done =>
    intro D W hW
    obtain ⟨⟨ao, c⟩, hW'⟩ := (hW.front 3 rfl).unpack
    replace hW : Ent (opener o [] 0 :: pt b7 (.cells #[.slice ao (offs 0 rs).length c] 67) :: rowRec ao c (offs 0 rs) :: pt D (.deferred (some [])) :: l) W := (hW'.erase 3).front 3 rfl
    clear hW'
    have HE := End_any hW
    have e0 : endE [] 0 = 0 := rfl
    rw [e0] at HE
    go_wp2_with (first
      | go_skip
      | (go_at_call 66; refine HE.mono ?_; clear HE; rintro e w4 ⟨rfl, rfl⟩)
      | ((with_reducible (show Go.wpList _ _ _ (Go.Oper.mk _ (.load _ _) _ _ _ _ :: _) _ _)); refine wpl_load1 hW 1 rfl rfl rfl rfl (by simp [go_sem]) rfl ?_))
    refine post_mark rfl (hW.front 3 rfl) (fun w' hw' => ⟨_, results_tmp2 rfl _ _ _, _, rfl, ao, c, rfl, hw'.tail.tail⟩)
  case stop =>
    intro D c pre W hpre hW
    obtain ⟨h, _⟩ := (hW.front 1 rfl).unpack
    exact h.elim
end Go.Proofs.YtdpfigkjkjjedaaDoor
