/-
  The bytes of a chunk, as the program puts them.
-/
import Derived.Test.YtohdljcpaogokaaCk6
namespace Go.Proofs.Ytohdljcpaogokaa
open Go.RowKit Go.SL

theorem pPut1 {p n : Nat} (hn : n < 256) {l : List HProp} {w : World} {bs : List UInt8} {err : Int} (hE : Ent (packer p bs err :: l) w) (hb : bs.length ≤ 1000000) :
    Calls Try.prog 42 #[.pointer (some ⟨p, 0, none⟩), .int .i64 1, .int .u64 n] w (Ret fun v w' => v = .pointer (some ⟨p, 0, none⟩) ∧ Ent (packer p (bs ++ [UInt8.ofNat n]) err :: l) w') := by
  have h := Put_any p n 1 hE (by omega)
  have e : numOk 1 n = true := by simp [numOk, wideB]; omega
  rw [e] at h
  rw [← be_one]
  exact h
theorem pPut2 {p n : Nat} (hn : n < 65536) {l : List HProp} {w : World} {bs : List UInt8} {err : Int} (hE : Ent (packer p bs err :: l) w) (hb : bs.length ≤ 1000000) :
    Calls Try.prog 42 #[.pointer (some ⟨p, 0, none⟩), .int .i64 2, .int .u64 n] w (Ret fun v w' => v = .pointer (some ⟨p, 0, none⟩) ∧ Ent (packer p (bs ++ be 2 n) err :: l) w') := by
  have h := Put_any p n 2 hE (by omega)
  have e : numOk 2 n = true := by simp [numOk, wideB]; omega
  rw [e] at h
  exact h
theorem pPut4 {p n : Nat} (hn : n < 4294967296) {l : List HProp} {w : World} {bs : List UInt8} {err : Int} (hE : Ent (packer p bs err :: l) w) (hb : bs.length ≤ 1000000) :
    Calls Try.prog 42 #[.pointer (some ⟨p, 0, none⟩), .int .i64 4, .int .u64 n] w (Ret fun v w' => v = .pointer (some ⟨p, 0, none⟩) ∧ Ent (packer p (bs ++ be 4 n) err :: l) w') := by
  have h := Put_any p n 4 hE (by omega)
  have e : numOk 4 n = true := by simp [numOk, wideB]; omega
  rw [e] at h
  exact h

theorem kidsB_snoc (d : Bool) {ks : List Kid} {k : Nat} (hlt : k < ks.length) : kidsB d (ks.take (k + 1)) = kidsB d (ks.take k) ++ kidB d ks[k] := by
  unfold kidsB
  rw [List.take_succ_eq_append_getElem hlt, List.flatMap_append, List.flatMap_cons, List.flatMap_nil, List.append_nil]

set_option maxRecDepth 100000 in
theorem cPut_no {u : UInt8} {data : List UInt8} {ks : List Kid} {ao : Option Addr} {c : Nat} (hg : ∀ k ∈ ks, k.good) (hb : ks.length ≤ 1000000) (hm : mayC ⟨u, data, ks⟩ = false) {l : List HProp} {w : World} (hE : Ent l w) (hk : Knows l (reads (.slice ao ks.length c) ks.length (kidCells ks))) :
    Calls Try.prog 23 #[.agg #[.int .u8 u.toNat, .string ⟨data.toArray⟩, .slice ao ks.length c]] w (Ret fun v w' => v = .tuple #[.slice none 0 0, .int .i64 2] ∧ Ent l w') := by
  have Hg := SL.hid hg
  have Hm := SL.hid hm
  clear hg hm
  go_enter Try.func23, Try.ntmps23
  go_wp2_with (first
    | go_skip
    | ((with_reducible (show Go.wpList _ _ _ (Go.Oper.mk _ (.box _ _) _ _ _ _ :: _) _ _)); refine wpl_box hE rfl rfl rfl ?_; clear hE; intro b1 w hE; simp only [Act.eval, Act.put, List.setIfInBounds_toArray, List.set_cons_zero, List.set_cons_succ, getD_lit, List.getD_cons_succ, List.getD_cons_zero, Value.cells] at hE)
    | ((with_reducible (show Go.wpList _ _ _ (Go.Oper.mk _ (.load _ (.tmp 1)) _ _ _ _ :: _) _ _)); refine wpl_loadW hE 0 rfl rfl rfl rfl Try.isAgg39 Try.sizeOf39 (xs := [.int .u8 u.toNat, .string ⟨data.toArray⟩, .slice ao ks.length c]) rfl ?_)
    | (go_at_call 66; have H := may_any (u := u) (data := data) Hg.out hb hE hk.cons; rw [Hm.out] at H; refine H.mono ?_; clear H hE; rintro e w2 ⟨v, rfl, rfl, hE⟩))
  go_ret2
  exact ⟨_, rfl, rfl, hE.tail⟩

set_option maxRecDepth 100000 in
theorem cPut_1 {data : List UInt8} {ao : Option Addr} {c : Nat} (hd : data.length ≤ 1000) (hm : mayC ⟨1, data, []⟩ = true) {l : List HProp} {w : World} (hE : Ent l w) (hk : Knows l (reads (.slice ao 0 c) 0 (kidCells []))) :
    Calls Try.prog 23 #[.agg #[.int .u8 1, .string ⟨data.toArray⟩, .slice ao 0 c]] w (Ret fun v w' => ∃ ao c, v = .tuple #[.slice ao (1 :: data).length c, .int .i64 0] ∧ Ent (rowB ao c (1 :: data) :: l) w') := by
  have Hm := SL.hid hm
  clear hm
  go_enter Try.func23, Try.ntmps23
  go_wp2_with (first
    | go_skip
    | ((with_reducible (show Go.wpList _ _ _ (Go.Oper.mk _ (.box _ _) _ _ _ _ :: _) _ _)); refine wpl_box hE rfl rfl rfl ?_; clear hE; intro b1 w hE; simp only [Act.eval, Act.put, List.setIfInBounds_toArray, List.set_cons_zero, List.set_cons_succ, getD_lit, List.getD_cons_succ, List.getD_cons_zero, Value.cells] at hE)
    | ((with_reducible (show Go.wpList _ _ _ (Go.Oper.mk _ (.load _ (.tmp 1)) _ _ _ _ :: _) _ _)); refine wpl_loadW hE 0 rfl rfl rfl rfl Try.isAgg39 Try.sizeOf39 (xs := [.int .u8 1, .string ⟨data.toArray⟩, .slice ao 0 c]) rfl ?_)
    | (go_at_call 66; have H := may_any (u := 1) (data := data) (ks := []) (by simp) (by simp) hE hk.cons; rw [Hm.out] at H; refine H.mono ?_; clear H hE; rintro e w2 ⟨v, rfl, rfl, hE⟩))
  refine wp_region_held_drew (S := (fun w' => w'.cell? ⟨b1, 0, none⟩ = some (.int .u8 1) ∧ w'.cell? ⟨b1, 1, none⟩ = some (.string ⟨data.toArray⟩))) (by kernel_rfl) ⟨hE.drew.cell 0 rfl 0, hE.drew.cell 0 rfl 1⟩ (fun hS => ?_)
  refine wpAnyH_take (i := 1) (oi := { dst := some 12, op := Go.Op.fieldAddr 39 (Go.Operand.tmp 1) 0, type := 0, pos := "chunk.go:102", after := #[], guard := none }) (v := ?_) rfl (by kernel_rfl) (by kernel_rfl) (by kernel_rfl) (fun _ _ _ h => h) (Or.inl ⟨by rfl, ?_⟩) hS ?_
  rotate_left
  · (intro w hSw; (try dsimp only at hSw); go_simp; (try with_reducible rfl))
  try simp only [Act.put, List.setIfInBounds_toArray, List.set_cons_zero, List.set_cons_succ]
  refine wpAnyH_take (i := 2) (oi := { dst := some 13, op := Go.Op.load 5 (Go.Operand.tmp 12), type := 5, pos := "chunk.go:102", after := #[{ on := 1, ground := Go.Ground.data }], guard := none }) (v := ?_) rfl (by kernel_rfl) (by kernel_rfl) (by kernel_rfl) (fun _ _ _ h => h) (Or.inl ⟨by rfl, ?_⟩) hS ?_
  rotate_left
  · (intro w hSw; (try dsimp only at hSw); go_simp; (try with_reducible rfl))
  try simp only [Act.put, List.setIfInBounds_toArray, List.set_cons_zero, List.set_cons_succ]
  refine wpAnyH_take (i := 3) (oi := { dst := some 14, op := Go.Op.convert 5 91 (Go.Operand.tmp 13), type := 91, pos := "chunk.go:102", after := #[{ on := 2, ground := Go.Ground.data }], guard := none }) (v := ?_) rfl (by kernel_rfl) (by kernel_rfl) (by kernel_rfl) (fun _ _ _ h => h) (Or.inl ⟨by rfl, ?_⟩) hS ?_
  rotate_left
  · (intro w hSw; (try dsimp only at hSw); go_simp; (try with_reducible rfl))
  try simp only [Act.put, List.setIfInBounds_toArray, List.set_cons_zero, List.set_cons_succ]
  refine wpAnyH_take (i := 5) (oi := { dst := some 16, op := Go.Op.fieldAddr 39 (Go.Operand.tmp 1) 1, type := 0, pos := "chunk.go:102", after := #[], guard := none }) (v := ?_) rfl (by kernel_rfl) (by kernel_rfl) (by kernel_rfl) (fun _ _ _ h => h) (Or.inl ⟨by rfl, ?_⟩) hS ?_
  rotate_left
  · (intro w hSw; (try dsimp only at hSw); go_simp; (try with_reducible rfl))
  try simp only [Act.put, List.setIfInBounds_toArray, List.set_cons_zero, List.set_cons_succ]
  refine wpAnyH_take (i := 6) (oi := { dst := some 17, op := Go.Op.load 9 (Go.Operand.tmp 16), type := 9, pos := "chunk.go:102", after := #[{ on := 5, ground := Go.Ground.data }], guard := none }) (v := ?_) rfl (by kernel_rfl) (by kernel_rfl) (by kernel_rfl) (fun _ _ _ h => h) (Or.inl ⟨by rfl, ?_⟩) hS ?_
  rotate_left
  · (intro w hSw; (try dsimp only at hSw); go_simp; (try with_reducible rfl))
  try simp only [Act.put, List.setIfInBounds_toArray, List.set_cons_zero, List.set_cons_succ]
  refine wpAnyH_ready (rs := [0]) (by kernel_rfl) (by simp) ?_
  refine (AllReadyH.cons (o := { dst := some 11, op := Go.Op.call { callee := Go.Callee.value (Go.Operand.func 41), args := #[], argTypes := #[] }, type := 88, pos := "chunk.go:102", after := #[], guard := none }) rfl (fun K hK => ?_) AllReadyH.nil)
  (go_simp; refine (New_any hE.drew).mono ?_; rintro e w3 ⟨v, rfl, p, rfl, hE3⟩)
  refine hK.out _ _ ⟨hE3.cell 1 rfl 0, hE3.cell 1 rfl 1⟩ (fun hS => ?_)
  clear hK K
  try simp only [Act.put, List.setIfInBounds_toArray, List.set_cons_zero, List.set_cons_succ]
  refine wpAnyH_ready (rs := [4]) (by kernel_rfl) (by simp) ?_
  refine (AllReadyH.cons (o := { dst := some 15, op := Go.Op.call { callee := Go.Callee.value (Go.Operand.func 42), args := #[Go.Operand.tmp 11, Go.Operand.const (Go.Value.int Go.IntKind.i64 1), Go.Operand.tmp 14], argTypes := #[88, 3, 91] }, type := 88, pos := "chunk.go:102", after := #[{ on := 0, ground := Go.Ground.data }, { on := 3, ground := Go.Ground.data }, { on := 0, ground := Go.Ground.chain }], guard := none }) rfl (fun K hK => ?_) AllReadyH.nil)
  (go_simp; refine (pPut1 (n := 1) (by omega) hE3 (by simp)).mono ?_; rintro e w4 ⟨v, rfl, rfl, hE4⟩)
  refine hK.out _ _ ⟨hE4.cell 1 rfl 0, hE4.cell 1 rfl 1⟩ (fun hS => ?_)
  clear hK K
  try simp only [Act.put, List.setIfInBounds_toArray, List.set_cons_zero, List.set_cons_succ]
  refine wpAnyH_ready (rs := [7]) (by kernel_rfl) (by simp) ?_
  refine (AllReadyH.cons (o := { dst := some 18, op := Go.Op.call { callee := Go.Callee.value (Go.Operand.func 48), args := #[Go.Operand.tmp 15, Go.Operand.tmp 17], argTypes := #[88, 9] }, type := 88, pos := "chunk.go:102", after := #[{ on := 4, ground := Go.Ground.data }, { on := 6, ground := Go.Ground.data }, { on := 4, ground := Go.Ground.chain }], guard := none }) rfl (fun K hK => ?_) AllReadyH.nil)
  (go_simp; refine (Text_any p data hE4 (by simp; omega)).mono ?_; rintro e w5 ⟨v, rfl, rfl, hE5⟩)
  refine hK.out _ _ ⟨hE5.cell 1 rfl 0, hE5.cell 1 rfl 1⟩ (fun hS => ?_)
  clear hK K
  try simp only [Act.put, List.setIfInBounds_toArray, List.set_cons_zero, List.set_cons_succ]
  refine wpAnyH_take (i := 8) (oi := { dst := some 4, op := Go.Op.assign (Go.Operand.tmp 18), type := 88, pos := "chunk.go:102", after := #[{ on := 7, ground := Go.Ground.data }, { on := 7, ground := Go.Ground.chain }, { on := 0, ground := Go.Ground.phase }, { on := 1, ground := Go.Ground.phase }, { on := 2, ground := Go.Ground.phase }, { on := 3, ground := Go.Ground.phase }, { on := 4, ground := Go.Ground.phase }, { on := 5, ground := Go.Ground.phase }, { on := 6, ground := Go.Ground.phase }, { on := 7, ground := Go.Ground.phase }], guard := none }) (v := ?_) rfl (by kernel_rfl) (by kernel_rfl) (by kernel_rfl) (fun _ _ _ h => h) (Or.inl ⟨by rfl, ?_⟩) hS ?_
  rotate_left
  · (intro w hSw; (try dsimp only at hSw); go_simp; (try with_reducible rfl))
  try simp only [Act.put, List.setIfInBounds_toArray, List.set_cons_zero, List.set_cons_succ]
  refine wpAnyH_done (by kernel_rfl) ?_ _
  go_wp2_with (first
    | go_skip
    | ((with_reducible (show Go.wpList _ _ _ (Go.Oper.mk _ (.load _ _) _ _ _ _ :: _) _ _)); refine wpl_load1 hE5 1 rfl rfl rfl rfl (by simp [go_sem]) rfl ?_))
  go_loop [31] (fun i => i = .int .i64 0) (fun _ => 0)
  case atStart => exact rfl
  case round =>
    obtain rfl := hrel
    go_wp2_with (first
      | go_skip
      | (go_at_call 44; have H := Bytes_ok hE5 (by simp; omega); refine H.mono ?_; clear H hE5; rintro e w6 ⟨v, rfl, ao2, c2, rfl, hE6⟩))
    go_ret2
    exact ⟨_, rfl, ao2, c2, rfl, (hE6.erase 1).erase 1⟩

def CPutRel (d : Bool) (u : UInt8) (ks : List Kid) (p : Nat) (l : List HProp) (i : Value) (wr : World) : Prop :=
  ∃ k : Nat, k ≤ ks.length ∧ i = .int .i64 k ∧ Ent (packer p (u :: UInt8.ofNat ks.length :: kidsB d (ks.take k)) 0 :: l) wr

/-- what is loaded of a block -/
theorem atV {P : Program} {l : List HProp} {w : World} (hE : Ent l w) (i : Nat) {b : Nat} {cs : Array Value} {T : TypeId} {fz : Nat × Nat} (hi : l[i]? = some (pt b (.cells cs T fz)))
    {t : TypeId} (hA : ∀ w, (isAgg t).run P w = .ok false w) {off : Nat} {v : Value} (hv : cs[off]? = some v) : (Instr.loadAt t (.pointer (some ⟨b, off, none⟩))).run P w = .ok v w := run_load1 hE i hi hA hv
theorem atA {P : Program} {l : List HProp} {w : World} (hE : Ent l w) (i : Nat) {b : Nat} {cs : Array Value} {T : TypeId} {fz : Nat × Nat} (hi : l[i]? = some (pt b (.cells cs T fz)))
    {t : TypeId} (hA : ∀ w, (isAgg t).run P w = .ok true w) {n : Nat} (hn : ∀ w, (Go.sizeOf t).run P w = .ok n w) {off : Nat} {vs : List Value} (hl : vs.length = n) (hv : ∀ j, j < n → cs[off + j]? = vs[j]?) :
    (Instr.loadAt t (.pointer (some ⟨b, off, none⟩))).run P w = .ok (.agg vs.toArray) w := run_loadA hE i hi hA hn hl hv

set_option maxRecDepth 100000 in
set_option maxHeartbeats 1000000 in
attribute [-go_sem] Instr.loadAt in
theorem cPut_2 {ks : List Kid} {ao : Option Addr} {c : Nat} (hg : ∀ k ∈ ks, k.good) (h6 : ks.length ≤ 6) (hm : mayC ⟨2, [], ks⟩ = true) {l : List HProp} {w : World} (hE : Ent l w) (hk : Knows l (reads (.slice ao ks.length c) ks.length (kidCells ks))) :
    Calls Try.prog 23 #[.agg #[.int .u8 2, .string ⟨#[]⟩, .slice ao ks.length c]] w (Ret fun v w' => ∃ ao c, v = .tuple #[.slice ao (2 :: UInt8.ofNat ks.length :: kidsB false ks).length c, .int .i64 0] ∧ Ent (rowB ao c (2 :: UInt8.ofNat ks.length :: kidsB false ks) :: l) w') := by
  have Hm := SL.hid hm
  have Hg := SL.hid hg
  clear hm hg
  have hl0 : IntKind.u64.wrap (ks.length : Int) = ks.length := wrapU_id (by omega)
  go_enter Try.func23, Try.ntmps23
  go_wp2_with (first
    | go_skip
    | ((with_reducible (show Go.wpList _ _ _ (Go.Oper.mk _ (.box _ _) _ _ _ _ :: _) _ _)); refine wpl_box hE rfl rfl rfl ?_; clear hE; intro b1 w hE; simp only [Act.eval, Act.put, List.setIfInBounds_toArray, List.set_cons_zero, List.set_cons_succ, getD_lit, List.getD_cons_succ, List.getD_cons_zero, Value.cells] at hE)
    | ((with_reducible (show Go.wpList _ _ _ (Go.Oper.mk _ (.load _ (.tmp 1)) _ _ _ _ :: _) _ _)); refine wpl_loadW hE 0 rfl rfl rfl rfl Try.isAgg39 Try.sizeOf39 (xs := [.int .u8 2, .string ⟨#[]⟩, .slice ao ks.length c]) rfl ?_)
    | (go_at_call 66; have H := may_any (u := 2) (data := []) (ks := ks) Hg.out (by omega) hE hk.cons; rw [Hm.out] at H; refine H.mono ?_; clear H hE; rintro e w2 ⟨v, rfl, rfl, hE⟩))
  refine wp_region_held_drew (S := (fun w' => (Instr.loadAt 5 (.pointer (some ⟨b1, 0, none⟩))).run Try.prog w' = .ok (.int .u8 2) w' ∧ (Instr.loadAt 9 (.pointer (some ⟨b1, 1, none⟩))).run Try.prog w' = .ok (.string ⟨#[]⟩) w')) (by kernel_rfl) ⟨atV hE.drew 0 rfl (by simp [go_sem]) rfl, atV hE.drew 0 rfl (by simp [go_sem]) rfl⟩ (fun hS => ?_)
  refine wpAnyH_take (i := 1) (oi := { dst := some 12, op := Go.Op.fieldAddr 39 (Go.Operand.tmp 1) 0, type := 0, pos := "chunk.go:102", after := #[], guard := none }) (v := ?_) rfl (by kernel_rfl) (by kernel_rfl) (by kernel_rfl) (fun _ _ _ h => h) (Or.inl ⟨by rfl, ?_⟩) hS ?_
  rotate_left
  · (intro w hSw; (try dsimp only at hSw); go_simp; (try with_reducible rfl))
  try simp only [Act.put, List.setIfInBounds_toArray, List.set_cons_zero, List.set_cons_succ]
  refine wpAnyH_take (i := 2) (oi := { dst := some 13, op := Go.Op.load 5 (Go.Operand.tmp 12), type := 5, pos := "chunk.go:102", after := #[{ on := 1, ground := Go.Ground.data }], guard := none }) (v := ?_) rfl (by kernel_rfl) (by kernel_rfl) (by kernel_rfl) (fun _ _ _ h => h) (Or.inl ⟨by rfl, ?_⟩) hS ?_
  rotate_left
  · (intro w hSw; (try dsimp only at hSw); go_simp; (try with_reducible rfl))
  try simp only [Act.put, List.setIfInBounds_toArray, List.set_cons_zero, List.set_cons_succ]
  refine wpAnyH_take (i := 3) (oi := { dst := some 14, op := Go.Op.convert 5 91 (Go.Operand.tmp 13), type := 91, pos := "chunk.go:102", after := #[{ on := 2, ground := Go.Ground.data }], guard := none }) (v := ?_) rfl (by kernel_rfl) (by kernel_rfl) (by kernel_rfl) (fun _ _ _ h => h) (Or.inl ⟨by rfl, ?_⟩) hS ?_
  rotate_left
  · (intro w hSw; (try dsimp only at hSw); go_simp; (try with_reducible rfl))
  try simp only [Act.put, List.setIfInBounds_toArray, List.set_cons_zero, List.set_cons_succ]
  refine wpAnyH_take (i := 5) (oi := { dst := some 16, op := Go.Op.fieldAddr 39 (Go.Operand.tmp 1) 1, type := 0, pos := "chunk.go:102", after := #[], guard := none }) (v := ?_) rfl (by kernel_rfl) (by kernel_rfl) (by kernel_rfl) (fun _ _ _ h => h) (Or.inl ⟨by rfl, ?_⟩) hS ?_
  rotate_left
  · (intro w hSw; (try dsimp only at hSw); go_simp; (try with_reducible rfl))
  try simp only [Act.put, List.setIfInBounds_toArray, List.set_cons_zero, List.set_cons_succ]
  refine wpAnyH_take (i := 6) (oi := { dst := some 17, op := Go.Op.load 9 (Go.Operand.tmp 16), type := 9, pos := "chunk.go:102", after := #[{ on := 5, ground := Go.Ground.data }], guard := none }) (v := ?_) rfl (by kernel_rfl) (by kernel_rfl) (by kernel_rfl) (fun _ _ _ h => h) (Or.inl ⟨by rfl, ?_⟩) hS ?_
  rotate_left
  · (intro w hSw; (try dsimp only at hSw); go_simp; (try with_reducible rfl))
  try simp only [Act.put, List.setIfInBounds_toArray, List.set_cons_zero, List.set_cons_succ]
  refine wpAnyH_ready (rs := [0]) (by kernel_rfl) (by simp) ?_
  refine (AllReadyH.cons (o := { dst := some 11, op := Go.Op.call { callee := Go.Callee.value (Go.Operand.func 41), args := #[], argTypes := #[] }, type := 88, pos := "chunk.go:102", after := #[], guard := none }) rfl (fun K hK => ?_) AllReadyH.nil)
  (go_simp; refine (New_any hE.drew).mono ?_; rintro e w3 ⟨v, rfl, p, rfl, hE3⟩)
  refine hK.out _ _ ⟨atV hE3 1 rfl (by simp [go_sem]) rfl, atV hE3 1 rfl (by simp [go_sem]) rfl⟩ (fun hS => ?_)
  clear hK K
  try simp only [Act.put, List.setIfInBounds_toArray, List.set_cons_zero, List.set_cons_succ]
  refine wpAnyH_ready (rs := [4]) (by kernel_rfl) (by simp) ?_
  refine (AllReadyH.cons (o := { dst := some 15, op := Go.Op.call { callee := Go.Callee.value (Go.Operand.func 42), args := #[Go.Operand.tmp 11, Go.Operand.const (Go.Value.int Go.IntKind.i64 1), Go.Operand.tmp 14], argTypes := #[88, 3, 91] }, type := 88, pos := "chunk.go:102", after := #[{ on := 0, ground := Go.Ground.data }, { on := 3, ground := Go.Ground.data }, { on := 0, ground := Go.Ground.chain }], guard := none }) rfl (fun K hK => ?_) AllReadyH.nil)
  (go_simp; refine (pPut1 (n := 2) (by omega) hE3 (by simp)).mono ?_; rintro e w4 ⟨v, rfl, rfl, hE4⟩)
  refine hK.out _ _ ⟨atV hE4 1 rfl (by simp [go_sem]) rfl, atV hE4 1 rfl (by simp [go_sem]) rfl⟩ (fun hS => ?_)
  clear hK K
  try simp only [Act.put, List.setIfInBounds_toArray, List.set_cons_zero, List.set_cons_succ]
  refine wpAnyH_ready (rs := [7]) (by kernel_rfl) (by simp) ?_
  refine (AllReadyH.cons (o := { dst := some 18, op := Go.Op.call { callee := Go.Callee.value (Go.Operand.func 48), args := #[Go.Operand.tmp 15, Go.Operand.tmp 17], argTypes := #[88, 9] }, type := 88, pos := "chunk.go:102", after := #[{ on := 4, ground := Go.Ground.data }, { on := 6, ground := Go.Ground.data }, { on := 4, ground := Go.Ground.chain }], guard := none }) rfl (fun K hK => ?_) AllReadyH.nil)
  (go_simp; refine (Text_any p [] hE4 (by simp)).mono ?_; rintro e w5 ⟨v, rfl, rfl, hE5⟩)
  refine hK.out _ _ ⟨atV hE5 1 rfl (by simp [go_sem]) rfl, atV hE5 1 rfl (by simp [go_sem]) rfl⟩ (fun hS => ?_)
  clear hK K
  try simp only [Act.put, List.setIfInBounds_toArray, List.set_cons_zero, List.set_cons_succ]
  refine wpAnyH_take (i := 8) (oi := { dst := some 4, op := Go.Op.assign (Go.Operand.tmp 18), type := 88, pos := "chunk.go:102", after := #[{ on := 7, ground := Go.Ground.data }, { on := 7, ground := Go.Ground.chain }, { on := 0, ground := Go.Ground.phase }, { on := 1, ground := Go.Ground.phase }, { on := 2, ground := Go.Ground.phase }, { on := 3, ground := Go.Ground.phase }, { on := 4, ground := Go.Ground.phase }, { on := 5, ground := Go.Ground.phase }, { on := 6, ground := Go.Ground.phase }, { on := 7, ground := Go.Ground.phase }], guard := none }) (v := ?_) rfl (by kernel_rfl) (by kernel_rfl) (by kernel_rfl) (fun _ _ _ h => h) (Or.inl ⟨by rfl, ?_⟩) hS ?_
  rotate_left
  · (intro w hSw; (try dsimp only at hSw); go_simp; (try with_reducible rfl))
  try simp only [Act.put, List.setIfInBounds_toArray, List.set_cons_zero, List.set_cons_succ]
  refine wpAnyH_done (by kernel_rfl) ?_ _
  go_wp2_with (first
    | go_skip
    | ((with_reducible (show Go.wpList _ _ _ (Go.Oper.mk _ (.load _ _) _ _ _ _ :: _) _ _)); refine wpl_load1 hE5 1 rfl rfl rfl rfl (by simp [go_sem]) rfl ?_)
    | ((with_reducible (show Go.wpList _ _ _ (Go.Oper.mk _ (.load _ _) _ _ _ _ :: _) _ _)); refine wpl_load1 hE6 1 rfl rfl rfl rfl (by simp [go_sem]) rfl ?_)
    | (go_at_call 42; have H := pPut1 (n := ks.length) (by omega) hE5 (by simp); refine H.mono ?_; clear H hE5; rintro e w6 ⟨v, rfl, rfl, hE6⟩))
  go_loopw [31] (fun i wr => CPutRel false 2 ks p (pt b1 (.cells #[.int .u8 2, .string ⟨#[]⟩, .slice ao ks.length c] 39) :: l) i wr) (fun i _ => ks.length - (intOf i).toNat)
  case atStart => exact ⟨0, Nat.zero_le _, rfl, hE6⟩
  case round =>
    clear hE6
    obtain ⟨k, hkl, rfl, hE⟩ := hrel
    by_cases hlt : k < ks.length
    · obtain ⟨b, off, rfl, _⟩ := reads_form (hk _ hE.tail.tail) (by omega) (by rw [kidCells_len Hg.out]; omega)
      have hcx := kid_cells Hg.out (hk _ hE.tail.tail) hlt
      have hlen := kidsB_len false 16 (ks.take k) (fun k hk => Hg.out k (List.mem_of_mem_take hk)) (fun _ _ h => by cases h)
      rw [List.length_take] at hlen
      have Hs := SL.hid (kidsB_snoc false hlt)
      have Hx := SL.hid (Hg.out _ (List.getElem_mem hlt))
      generalize ks[k] = x at *
      have Hcx := SL.hid hcx
      clear hcx
      have H36 := SL.hid (kcells_len Hx.out)
      have Hone := SL.hid (kcells_one x)
      have K2 := SL.hid (kc2 Hx.out)
      have K34 := SL.hid (kc34 Hx.out)
      have K35 := SL.hid (kc35 Hx.out)
      have H32 := SL.hid (show (bvals x.hash).length = 32 by rw [bvals_length, Hx.out.1])
      have Hh := SL.hid Hx.out.1
      have Hbg := SL.hid x.height.toNat_lt
      have hwg : IntKind.u64.wrap (x.height.toNat : Int) = x.height.toNat := wrapU_id (by have := x.height.toNat_lt; omega)
      have hws : IntKind.u64.wrap (x.size : Int) = x.size := wrapU_id (by have := Hx.out.2; omega)
      have Hsz := SL.hid Hx.out.2
      have Hkb := SL.hid (show kidB false x = x.hash ++ [UInt8.ofNat x.height.toNat] ++ be 4 x.size by simp [kidB])
      have hbl : (kidsB false (ks.take k)).length ≤ 1000 := by omega
      clear hlen
      generalize hpre : (2 :: UInt8.ofNat ks.length :: kidsB false (ks.take k)) = pre at hE
      have hpl : pre.length ≤ 1002 := by rw [← hpre]; simp; omega
      have Hpre := SL.hid hpre
      clear hpre
      generalize x.height.toNat = g at *
      generalize x.size = sz at *
      generalize x.hash = hs at *
      generalize kcells x = xs at *
      go_wp2_with (first
        | go_skip
        | ((with_reducible (show Go.wpList _ _ _ (Go.Oper.mk _ (.load 59 _) _ _ _ _ :: _) _ _)); refine wpl_loadC rfl rfl rfl Try.isAgg59 Try.sizeOf59 xs H36.out Hcx.out ?_)
        | ((with_reducible (show Go.wpList _ _ _ (Go.Oper.mk _ (.alloc _) _ _ _ _ :: _) _ _)); refine wpl_allocN hE rfl rfl (n := 36) (by kernel_rfl) ?_; clear hE; intro b6 cs w1 hq hE6)
        | ((with_reducible (show Go.wpList _ _ _ (Go.Oper.mk _ (.store _ _ _) _ _ _ _ :: _) _ _)); refine wpl_storeN hE6 0 rfl rfl rfl rfl rfl Try.sizeOf59 H36.out Hone.out hq ?_; clear hE6; intro w1 hE7; simp only [List.set_cons_zero] at hE7)
        | ((with_reducible (show Go.wpList _ _ _ (Go.Oper.mk _ (.load _ _) _ _ _ _ :: _) _ _)); refine wpl_load1 hE7 2 rfl rfl rfl rfl (by simp [go_sem]) rfl ?_))
      refine wp_region_held_drew (S := (fun w' => (Instr.loadAt 56 (.pointer (some ⟨b6, 2, none⟩))).run Try.prog w' = .ok (.agg (bvals hs).toArray) w' ∧ (Instr.loadAt 5 (.pointer (some ⟨b6, 34, none⟩))).run Try.prog w' = .ok (.int .u8 g) w' ∧ (Instr.loadAt 57 (.pointer (some ⟨b6, 35, none⟩))).run Try.prog w' = .ok (.int .u32 sz) w')) (by kernel_rfl) ⟨atA hE7.drew 0 rfl Try.isAgg56 Try.sizeOf56 H32.out K2.out, atV hE7.drew 0 rfl (by simp [go_sem]) K34.out, atV hE7.drew 0 rfl (by simp [go_sem]) K35.out⟩ (fun hS => ?_)
      refine wpAnyH_take (i := 0) (oi := { dst := some 46, op := Go.Op.move (Go.Operand.tmp 4), type := 88, pos := "chunk.go:114", after := #[], guard := none }) (v := ?_) rfl (by kernel_rfl) (by kernel_rfl) (by kernel_rfl) (fun _ _ _ h => h) (Or.inl ⟨by rfl, ?_⟩) hS ?_
      rotate_left
      · (intro w hSw; (try dsimp only at hSw); go_simp; (try with_reducible rfl))
      try simp only [Act.put, List.setIfInBounds_toArray, List.set_cons_zero, List.set_cons_succ]
      refine wpAnyH_take (i := 1) (oi := { dst := some 47, op := Go.Op.fieldAddr 59 (Go.Operand.tmp 6) 2, type := 0, pos := "chunk.go:114", after := #[], guard := none }) (v := ?_) rfl (by kernel_rfl) (by kernel_rfl) (by kernel_rfl) (fun _ _ _ h => h) (Or.inl ⟨by rfl, ?_⟩) hS ?_
      rotate_left
      · (intro w hSw; (try dsimp only at hSw); go_simp; (try with_reducible rfl))
      try simp only [Act.put, List.setIfInBounds_toArray, List.set_cons_zero, List.set_cons_succ]
      refine wpAnyH_take (i := 2) (oi := { dst := some 48, op := Go.Op.load 56 (Go.Operand.tmp 47), type := 56, pos := "chunk.go:114", after := #[{ on := 1, ground := Go.Ground.data }], guard := none }) (v := ?_) rfl (by kernel_rfl) (by kernel_rfl) (by kernel_rfl) (fun _ _ _ h => h) (Or.inl ⟨by rfl, ?_⟩) hS ?_
      rotate_left
      · (intro w hSw; (try dsimp only at hSw); go_simp; (try with_reducible rfl))
      try simp only [Act.put, List.setIfInBounds_toArray, List.set_cons_zero, List.set_cons_succ]
      refine wpAnyH_take (i := 4) (oi := { dst := some 50, op := Go.Op.fieldAddr 59 (Go.Operand.tmp 6) 3, type := 0, pos := "chunk.go:114", after := #[], guard := none }) (v := ?_) rfl (by kernel_rfl) (by kernel_rfl) (by kernel_rfl) (fun _ _ _ h => h) (Or.inl ⟨by rfl, ?_⟩) hS ?_
      rotate_left
      · (intro w hSw; (try dsimp only at hSw); go_simp; (try with_reducible rfl))
      try simp only [Act.put, List.setIfInBounds_toArray, List.set_cons_zero, List.set_cons_succ]
      refine wpAnyH_take (i := 5) (oi := { dst := some 51, op := Go.Op.load 5 (Go.Operand.tmp 50), type := 5, pos := "chunk.go:114", after := #[{ on := 4, ground := Go.Ground.data }], guard := none }) (v := ?_) rfl (by kernel_rfl) (by kernel_rfl) (by kernel_rfl) (fun _ _ _ h => h) (Or.inl ⟨by rfl, ?_⟩) hS ?_
      rotate_left
      · (intro w hSw; (try dsimp only at hSw); go_simp; (try with_reducible rfl))
      try simp only [Act.put, List.setIfInBounds_toArray, List.set_cons_zero, List.set_cons_succ]
      refine wpAnyH_take (i := 6) (oi := { dst := some 52, op := Go.Op.convert 5 91 (Go.Operand.tmp 51), type := 91, pos := "chunk.go:114", after := #[{ on := 5, ground := Go.Ground.data }], guard := none }) (v := ?_) rfl (by kernel_rfl) (by kernel_rfl) (by kernel_rfl) (fun _ _ _ h => h) (Or.inl ⟨by rfl, ?_⟩) hS ?_
      rotate_left
      · (intro w hSw; (try dsimp only at hSw); go_simp; (try with_reducible rfl))
      try simp only [Act.put, List.setIfInBounds_toArray, List.set_cons_zero, List.set_cons_succ]
      refine wpAnyH_take (i := 8) (oi := { dst := some 54, op := Go.Op.fieldAddr 59 (Go.Operand.tmp 6) 4, type := 0, pos := "chunk.go:114", after := #[], guard := none }) (v := ?_) rfl (by kernel_rfl) (by kernel_rfl) (by kernel_rfl) (fun _ _ _ h => h) (Or.inl ⟨by rfl, ?_⟩) hS ?_
      rotate_left
      · (intro w hSw; (try dsimp only at hSw); go_simp; (try with_reducible rfl))
      try simp only [Act.put, List.setIfInBounds_toArray, List.set_cons_zero, List.set_cons_succ]
      refine wpAnyH_take (i := 9) (oi := { dst := some 55, op := Go.Op.load 57 (Go.Operand.tmp 54), type := 57, pos := "chunk.go:114", after := #[{ on := 8, ground := Go.Ground.data }], guard := none }) (v := ?_) rfl (by kernel_rfl) (by kernel_rfl) (by kernel_rfl) (fun _ _ _ h => h) (Or.inl ⟨by rfl, ?_⟩) hS ?_
      rotate_left
      · (intro w hSw; (try dsimp only at hSw); go_simp; (try with_reducible rfl))
      try simp only [Act.put, List.setIfInBounds_toArray, List.set_cons_zero, List.set_cons_succ]
      refine wpAnyH_take (i := 10) (oi := { dst := some 56, op := Go.Op.convert 57 91 (Go.Operand.tmp 55), type := 91, pos := "chunk.go:114", after := #[{ on := 9, ground := Go.Ground.data }], guard := none }) (v := ?_) rfl (by kernel_rfl) (by kernel_rfl) (by kernel_rfl) (fun _ _ _ h => h) (Or.inl ⟨by rfl, ?_⟩) hS ?_
      rotate_left
      · (intro w hSw; (try dsimp only at hSw); go_simp; (try with_reducible rfl))
      try simp only [Act.put, List.setIfInBounds_toArray, List.set_cons_zero, List.set_cons_succ]
      refine wpAnyH_ready (rs := [3]) (by kernel_rfl) (by simp) ?_
      refine (AllReadyH.cons (o := { dst := some 49, op := Go.Op.call { callee := Go.Callee.value (Go.Operand.func 68), args := #[Go.Operand.tmp 46, Go.Operand.tmp 48], argTypes := #[88, 56] }, type := 88, pos := "chunk.go:114", after := #[{ on := 0, ground := Go.Ground.data }, { on := 2, ground := Go.Ground.data }], guard := none }) rfl (fun K hK => ?_) AllReadyH.nil)
      (go_simp; refine (Hash_any p hs Hh.out (hE7.drew.front 1 rfl) (by omega)).mono ?_; rintro e w8 ⟨v, rfl, rfl, hE8⟩)
      refine hK.out _ _ ⟨atA hE8 1 rfl Try.isAgg56 Try.sizeOf56 H32.out K2.out, atV hE8 1 rfl (by simp [go_sem]) K34.out, atV hE8 1 rfl (by simp [go_sem]) K35.out⟩ (fun hS => ?_)
      clear hK K
      try simp only [Act.put, List.setIfInBounds_toArray, List.set_cons_zero, List.set_cons_succ]
      refine wpAnyH_ready (rs := [7]) (by kernel_rfl) (by simp) ?_
      refine (AllReadyH.cons (o := { dst := some 53, op := Go.Op.call { callee := Go.Callee.value (Go.Operand.func 42), args := #[Go.Operand.tmp 49, Go.Operand.const (Go.Value.int Go.IntKind.i64 1), Go.Operand.tmp 52], argTypes := #[88, 3, 91] }, type := 88, pos := "chunk.go:114", after := #[{ on := 3, ground := Go.Ground.data }, { on := 6, ground := Go.Ground.data }, { on := 3, ground := Go.Ground.chain }], guard := none }) rfl (fun K hK => ?_) AllReadyH.nil)
      (go_simp; refine (pPut1 (n := g) Hbg.out hE8 (by rw [List.length_append, Hh.out]; omega)).mono ?_; rintro e w9 ⟨v, rfl, rfl, hE9⟩)
      refine hK.out _ _ ⟨atA hE9 1 rfl Try.isAgg56 Try.sizeOf56 H32.out K2.out, atV hE9 1 rfl (by simp [go_sem]) K34.out, atV hE9 1 rfl (by simp [go_sem]) K35.out⟩ (fun hS => ?_)
      clear hK K
      try simp only [Act.put, List.setIfInBounds_toArray, List.set_cons_zero, List.set_cons_succ]
      refine wpAnyH_ready (rs := [11]) (by kernel_rfl) (by simp) ?_
      refine (AllReadyH.cons (o := { dst := some 57, op := Go.Op.call { callee := Go.Callee.value (Go.Operand.func 42), args := #[Go.Operand.tmp 53, Go.Operand.const (Go.Value.int Go.IntKind.i64 4), Go.Operand.tmp 56], argTypes := #[88, 3, 91] }, type := 88, pos := "chunk.go:114", after := #[{ on := 7, ground := Go.Ground.data }, { on := 10, ground := Go.Ground.data }, { on := 7, ground := Go.Ground.chain }], guard := none }) rfl (fun K hK => ?_) AllReadyH.nil)
      (go_simp; refine (pPut4 (n := sz) Hsz.out hE9 (by rw [List.length_append, List.length_append, Hh.out]; simp; omega)).mono ?_; rintro e wa ⟨v, rfl, rfl, hEa⟩)
      refine hK.out _ _ ⟨atA hEa 1 rfl Try.isAgg56 Try.sizeOf56 H32.out K2.out, atV hEa 1 rfl (by simp [go_sem]) K34.out, atV hEa 1 rfl (by simp [go_sem]) K35.out⟩ (fun hS => ?_)
      clear hK K
      try simp only [Act.put, List.setIfInBounds_toArray, List.set_cons_zero, List.set_cons_succ]
      refine wpAnyH_done (by kernel_rfl) ?_ _
      go_wp2
      go_roundw
      case rel =>
        refine ⟨k + 1, hlt, by simp, ?_⟩
        have hF := hEa.erase 1
        rw [← Hpre.out] at hF
        rw [Hs.out, Hkb.out]
        simpa using hF
      case measure => simp [intOf]; omega
    · have E2 : ks.take k = ks := by rw [show k = ks.length by omega, List.take_length]
      rw [E2] at hE
      have hlen := kidsB_len false 16 ks Hg.out (fun _ _ h => by cases h)
      clear E2
      go_wp2_with (first
        | go_skip
        | (go_at_call 44; have H := Bytes_ok hE (by simp; omega); refine H.mono ?_; clear H hE; rintro e w6 ⟨v, rfl, ao2, c2, rfl, hE6⟩))
      go_ret2
      exact ⟨_, rfl, ao2, c2, rfl, (hE6.erase 1).erase 1⟩
end Go.Proofs.Ytohdljcpaogokaa
