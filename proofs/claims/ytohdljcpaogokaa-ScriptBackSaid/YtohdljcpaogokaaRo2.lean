/-
  The document's own reader of numbers, over what is left and the error.
-/
import Derived.Test.YtohdljcpaogokaaRo1
namespace Go.Proofs.Ytohdljcpaogokaa
open Go.RowKit Go.SL

theorem txV_val (n : Int) (s : St) : beVal (txV n s) = valT (tkOk n s.bs s.err) s.bs n := by
  unfold txV strT valT
  split <;> rfl
theorem tk_wide {n : Int} (h : wideB n = true) (s : St) : tk n s = tx n s ∧ tkV n s = beVal (txV n s) := by
  have e : wideN n = n := by simp [wideN, h]
  rw [txV_val, tk, tkV, e]
  exact ⟨rfl, rfl⟩
theorem st_eta (s : St) : (⟨s.bs, s.err⟩ : St) = s := rfl

set_option maxRecDepth 100000 in
theorem rTake_1 {s : St} {l : List HProp} {w : World} (hE : Ent l w) (hb : s.bs.length ≤ 1099511627776) :
    Calls Try.prog 61 #[.agg #[.string ⟨s.bs.toArray⟩, .bool (s.err != 0)], .int .i64 1] w (Ret fun v w' => v = .tuple #[.int .u64 (tkV 1 s), .agg (rcs (tk 1 s)).toArray] ∧ Ent l w') := by
  obtain ⟨e1, e2⟩ := tk_wide (n := 1) rfl s
  rw [e1, e2]
  have hT : ∀ {l : List HProp} {w : World}, Ent l w → Calls Try.prog 63 #[.agg #[.string ⟨s.bs.toArray⟩, .bool (s.err != 0)], .int .i64 1] w (Ret fun v w' => v = .tuple #[.string ⟨(txV 1 s).toArray⟩, .agg #[.string ⟨(tx 1 s).bs.toArray⟩, .bool ((tx 1 s).err != 0)]] ∧ Ent l w') := fun h => rText_any h 1
  have hV : ∀ w, Calls Try.prog 97 #[.string ⟨(txV 1 s).toArray⟩] w (fun e w' => e = .returned (.int .u64 (beVal (txV 1 s))) ∧ w = w') := fun w => Value_any _ w (Nat.le_trans (txV_len _ _) hb)
  unfold rcs
  clear hb e1 e2
  generalize beVal (txV 1 s) = m at *
  generalize txV 1 s = ys at *
  generalize (tx 1 s).bs.toArray = s2 at *
  generalize ((tx 1 s).err != 0) = b2 at *
  generalize s.bs.toArray = s1 at *
  generalize (s.err != 0) = b1 at *
  go_enter Try.func61, Try.ntmps61
  go_wp2_with (first
    | go_skip
    | ((with_reducible (show Go.wpList _ _ _ (Go.Oper.mk _ (.box _ _) _ _ _ _ :: _) _ _)); refine wpl_box hE rfl rfl rfl ?_; clear hE; intro b0 w hE; simp only [Act.eval, Act.put, List.setIfInBounds_toArray, List.set_cons_zero, List.set_cons_succ, getD_lit, List.getD_cons_succ, List.getD_cons_zero, Value.cells] at hE)
    | ((with_reducible (show Go.wpList _ _ _ (Go.Oper.mk _ (.alloc _) _ _ _ _ :: _) _ _)); refine wpl_alloc hE rfl rfl (by simp [go_sem]; rfl) ?_; clear hE; intro b3 w hE1; simp only [Act.eval, Act.put, List.setIfInBounds_toArray, List.set_cons_zero, List.set_cons_succ, getD_lit, List.getD_cons_succ, List.getD_cons_zero, Value.cells] at hE1)
    | (refine wpl_loadW hE1 1 rfl rfl rfl rfl Try.isAgg108 Try.sizeOf108 rfl ?_)
    | (go_at_call 63; have H := hT hE1; refine H.mono ?_; clear H hE1; rintro e w2 ⟨v, rfl, rfl, hE2⟩)
    | ((with_reducible (show Go.wpList _ _ _ (Go.Oper.mk _ (.alloc _) _ _ _ _ :: _) _ _)); refine wpl_alloc hE2 rfl rfl (by simp [go_sem]; rfl) ?_; clear hE2; intro b7 w hE3; simp only [Act.eval, Act.put, List.setIfInBounds_toArray, List.set_cons_zero, List.set_cons_succ, getD_lit, List.getD_cons_succ, List.getD_cons_zero, Value.cells] at hE3)
    | (refine wpl_storeW hE3 0 rfl rfl rfl rfl rfl Try.sizeOf108 rfl (by simp [Value.oneCell']) rfl ?_; clear hE3; intro w hE; simp only [List.set_cons_zero] at hE))
  obtain ⟨⟨n0, n1⟩, nf⟩ := two' hE 1 rfl
  refine wp_region_held_drew (S := (fun w' => w'.cell? ⟨b7, 0, none⟩ = some (.string ⟨s2⟩) ∧ w'.cell? ⟨b7, 1, none⟩ = some (.bool b2))) (by kernel_rfl) (two hE.drew 0 rfl) (fun hS => ?_)
  refine wpAnyH_take (i := 0) (oi := { dst := some 28, op := Go.Op.move (Go.Operand.tmp 6), type := 9, pos := "ref.go:51", after := #[], guard := none }) (v := ?_) rfl (by kernel_rfl) (by kernel_rfl) (by kernel_rfl) (fun _ _ _ h => h) (Or.inl ⟨by rfl, ?_⟩) hS ?_
  rotate_left
  · (intro w hSw; (try dsimp only at hSw); go_simp; (try with_reducible rfl))
  try simp only [Act.put, List.setIfInBounds_toArray, List.set_cons_zero, List.set_cons_succ]
  refine wpAnyH_take (i := 2) (oi := { dst := some 30, op := Go.Op.load 108 (Go.Operand.tmp 7), type := 108, pos := "ref.go:51", after := #[{ on := 3, ground := Go.Ground.gcOnly Go.Departure.lateStores }], guard := none }) (v := ?_) rfl (by kernel_rfl) (by kernel_rfl) (by kernel_rfl) (fun _ _ _ h => h) (Or.inl ⟨by rfl, ?_⟩) hS ?_
  rotate_left
  · (intro w hSw; (try dsimp only at hSw); go_simp; (try with_reducible rfl))
  try simp only [Act.put, List.setIfInBounds_toArray, List.set_cons_zero, List.set_cons_succ]
  refine wpAnyH_ready (rs := [1]) (by kernel_rfl) (by simp) ?_
  refine (AllReadyH.cons (o := { dst := some 29, op := Go.Op.call { callee := Go.Callee.value (Go.Operand.func 97), args := #[Go.Operand.tmp 28], argTypes := #[9] }, type := 91, pos := "ref.go:51", after := #[{ on := 0, ground := Go.Ground.data }], guard := none }) rfl (fun K hK => ?_) AllReadyH.nil)
  (go_simp; refine (hV _).mono ?_; rintro e w3 ⟨rfl, rfl⟩)
  refine hK.out _ _ hS (fun hS => ?_)
  clear hK K
  try simp only [Act.put, List.setIfInBounds_toArray, List.set_cons_zero, List.set_cons_succ]
  refine wpAnyH_take (i := 3) (oi := { dst := some 4, op := Go.Op.assign (Go.Operand.tmp 29), type := 91, pos := "ref.go:51", after := #[{ on := 1, ground := Go.Ground.data }, { on := 1, ground := Go.Ground.chain }, { on := 0, ground := Go.Ground.phase }, { on := 1, ground := Go.Ground.phase }, { on := 2, ground := Go.Ground.textOnly Go.Departure.lateStores }], guard := none }) (v := ?_) rfl (by kernel_rfl) (by kernel_rfl) (by kernel_rfl) (fun _ _ _ h => h) (Or.inl ⟨by rfl, ?_⟩) hS ?_
  rotate_left
  · (intro w hSw; (try dsimp only at hSw); go_simp; (try with_reducible rfl))
  try simp only [Act.put, List.setIfInBounds_toArray, List.set_cons_zero, List.set_cons_succ]
  refine wpAnyH_ready (rs := [4]) (by kernel_rfl) (by simp) ?_
  refine (AllReadyH.cons (o := { dst := none, op := Go.Op.store 108 (Go.Operand.tmp 5) (Go.Operand.tmp 30), type := 0, pos := "ref.go:51", after := #[{ on := 2, ground := Go.Ground.data }, { on := 3, ground := Go.Ground.chain }, { on := 0, ground := Go.Ground.phase }, { on := 1, ground := Go.Ground.phase }, { on := 2, ground := Go.Ground.phase }, { on := 3, ground := Go.Ground.phase }], guard := none }) rfl (fun K hK => ?_) AllReadyH.nil)
  go_simp
  refine hK.out _ _ (two ((hE.drew.setCell 1 rfl 0 (.string ⟨s2⟩)).setCell 1 rfl 1 (.bool b2)) 0 rfl) (fun hS => ?_)
  clear hK K
  try simp only [Act.put, List.setIfInBounds_toArray, List.set_cons_zero, List.set_cons_succ]
  refine wpAnyH_done (by kernel_rfl) ?_ _
  all_goals
    go_wp2
    have hF := (hE.drew.setCell 1 rfl 0 (.string ⟨s2⟩)).setCell 1 rfl 1 (.bool b2)
    simp only [List.set_cons_succ, List.set_cons_zero, List.setIfInBounds_toArray] at hF
    refine bodyPost_ret (results_2cell rfl hF 1 rfl rfl Try.isAgg108 Try.sizeOf108 rfl rfl) rfl ⟨_, rfl, rfl, hF.tail.tail.tail⟩

set_option maxRecDepth 100000 in
theorem rTake_2 {s : St} {l : List HProp} {w : World} (hE : Ent l w) (hb : s.bs.length ≤ 1099511627776) :
    Calls Try.prog 61 #[.agg #[.string ⟨s.bs.toArray⟩, .bool (s.err != 0)], .int .i64 2] w (Ret fun v w' => v = .tuple #[.int .u64 (tkV 2 s), .agg (rcs (tk 2 s)).toArray] ∧ Ent l w') := by
  obtain ⟨e1, e2⟩ := tk_wide (n := 2) rfl s
  rw [e1, e2]
  have hT : ∀ {l : List HProp} {w : World}, Ent l w → Calls Try.prog 63 #[.agg #[.string ⟨s.bs.toArray⟩, .bool (s.err != 0)], .int .i64 2] w (Ret fun v w' => v = .tuple #[.string ⟨(txV 2 s).toArray⟩, .agg #[.string ⟨(tx 2 s).bs.toArray⟩, .bool ((tx 2 s).err != 0)]] ∧ Ent l w') := fun h => rText_any h 2
  have hV : ∀ w, Calls Try.prog 97 #[.string ⟨(txV 2 s).toArray⟩] w (fun e w' => e = .returned (.int .u64 (beVal (txV 2 s))) ∧ w = w') := fun w => Value_any _ w (Nat.le_trans (txV_len _ _) hb)
  unfold rcs
  clear hb e1 e2
  generalize beVal (txV 2 s) = m at *
  generalize txV 2 s = ys at *
  generalize (tx 2 s).bs.toArray = s2 at *
  generalize ((tx 2 s).err != 0) = b2 at *
  generalize s.bs.toArray = s1 at *
  generalize (s.err != 0) = b1 at *
  go_enter Try.func61, Try.ntmps61
  go_wp2_with (first
    | go_skip
    | ((with_reducible (show Go.wpList _ _ _ (Go.Oper.mk _ (.box _ _) _ _ _ _ :: _) _ _)); refine wpl_box hE rfl rfl rfl ?_; clear hE; intro b0 w hE; simp only [Act.eval, Act.put, List.setIfInBounds_toArray, List.set_cons_zero, List.set_cons_succ, getD_lit, List.getD_cons_succ, List.getD_cons_zero, Value.cells] at hE)
    | ((with_reducible (show Go.wpList _ _ _ (Go.Oper.mk _ (.alloc _) _ _ _ _ :: _) _ _)); refine wpl_alloc hE rfl rfl (by simp [go_sem]; rfl) ?_; clear hE; intro b3 w hE1; simp only [Act.eval, Act.put, List.setIfInBounds_toArray, List.set_cons_zero, List.set_cons_succ, getD_lit, List.getD_cons_succ, List.getD_cons_zero, Value.cells] at hE1)
    | (refine wpl_loadW hE1 1 rfl rfl rfl rfl Try.isAgg108 Try.sizeOf108 rfl ?_)
    | (go_at_call 63; have H := hT hE1; refine H.mono ?_; clear H hE1; rintro e w2 ⟨v, rfl, rfl, hE2⟩)
    | ((with_reducible (show Go.wpList _ _ _ (Go.Oper.mk _ (.alloc _) _ _ _ _ :: _) _ _)); refine wpl_alloc hE2 rfl rfl (by simp [go_sem]; rfl) ?_; clear hE2; intro b7 w hE3; simp only [Act.eval, Act.put, List.setIfInBounds_toArray, List.set_cons_zero, List.set_cons_succ, getD_lit, List.getD_cons_succ, List.getD_cons_zero, Value.cells] at hE3)
    | (refine wpl_storeW hE3 0 rfl rfl rfl rfl rfl Try.sizeOf108 rfl (by simp [Value.oneCell']) rfl ?_; clear hE3; intro w hE; simp only [List.set_cons_zero] at hE))
  obtain ⟨⟨n0, n1⟩, nf⟩ := two' hE 1 rfl
  refine wp_region_held_drew (S := (fun w' => w'.cell? ⟨b7, 0, none⟩ = some (.string ⟨s2⟩) ∧ w'.cell? ⟨b7, 1, none⟩ = some (.bool b2))) (by kernel_rfl) (two hE.drew 0 rfl) (fun hS => ?_)
  refine wpAnyH_take (i := 0) (oi := { dst := some 28, op := Go.Op.move (Go.Operand.tmp 6), type := 9, pos := "ref.go:51", after := #[], guard := none }) (v := ?_) rfl (by kernel_rfl) (by kernel_rfl) (by kernel_rfl) (fun _ _ _ h => h) (Or.inl ⟨by rfl, ?_⟩) hS ?_
  rotate_left
  · (intro w hSw; (try dsimp only at hSw); go_simp; (try with_reducible rfl))
  try simp only [Act.put, List.setIfInBounds_toArray, List.set_cons_zero, List.set_cons_succ]
  refine wpAnyH_take (i := 2) (oi := { dst := some 30, op := Go.Op.load 108 (Go.Operand.tmp 7), type := 108, pos := "ref.go:51", after := #[{ on := 3, ground := Go.Ground.gcOnly Go.Departure.lateStores }], guard := none }) (v := ?_) rfl (by kernel_rfl) (by kernel_rfl) (by kernel_rfl) (fun _ _ _ h => h) (Or.inl ⟨by rfl, ?_⟩) hS ?_
  rotate_left
  · (intro w hSw; (try dsimp only at hSw); go_simp; (try with_reducible rfl))
  try simp only [Act.put, List.setIfInBounds_toArray, List.set_cons_zero, List.set_cons_succ]
  refine wpAnyH_ready (rs := [1]) (by kernel_rfl) (by simp) ?_
  refine (AllReadyH.cons (o := { dst := some 29, op := Go.Op.call { callee := Go.Callee.value (Go.Operand.func 97), args := #[Go.Operand.tmp 28], argTypes := #[9] }, type := 91, pos := "ref.go:51", after := #[{ on := 0, ground := Go.Ground.data }], guard := none }) rfl (fun K hK => ?_) AllReadyH.nil)
  (go_simp; refine (hV _).mono ?_; rintro e w3 ⟨rfl, rfl⟩)
  refine hK.out _ _ hS (fun hS => ?_)
  clear hK K
  try simp only [Act.put, List.setIfInBounds_toArray, List.set_cons_zero, List.set_cons_succ]
  refine wpAnyH_take (i := 3) (oi := { dst := some 4, op := Go.Op.assign (Go.Operand.tmp 29), type := 91, pos := "ref.go:51", after := #[{ on := 1, ground := Go.Ground.data }, { on := 1, ground := Go.Ground.chain }, { on := 0, ground := Go.Ground.phase }, { on := 1, ground := Go.Ground.phase }, { on := 2, ground := Go.Ground.textOnly Go.Departure.lateStores }], guard := none }) (v := ?_) rfl (by kernel_rfl) (by kernel_rfl) (by kernel_rfl) (fun _ _ _ h => h) (Or.inl ⟨by rfl, ?_⟩) hS ?_
  rotate_left
  · (intro w hSw; (try dsimp only at hSw); go_simp; (try with_reducible rfl))
  try simp only [Act.put, List.setIfInBounds_toArray, List.set_cons_zero, List.set_cons_succ]
  refine wpAnyH_ready (rs := [4]) (by kernel_rfl) (by simp) ?_
  refine (AllReadyH.cons (o := { dst := none, op := Go.Op.store 108 (Go.Operand.tmp 5) (Go.Operand.tmp 30), type := 0, pos := "ref.go:51", after := #[{ on := 2, ground := Go.Ground.data }, { on := 3, ground := Go.Ground.chain }, { on := 0, ground := Go.Ground.phase }, { on := 1, ground := Go.Ground.phase }, { on := 2, ground := Go.Ground.phase }, { on := 3, ground := Go.Ground.phase }], guard := none }) rfl (fun K hK => ?_) AllReadyH.nil)
  go_simp
  refine hK.out _ _ (two ((hE.drew.setCell 1 rfl 0 (.string ⟨s2⟩)).setCell 1 rfl 1 (.bool b2)) 0 rfl) (fun hS => ?_)
  clear hK K
  try simp only [Act.put, List.setIfInBounds_toArray, List.set_cons_zero, List.set_cons_succ]
  refine wpAnyH_done (by kernel_rfl) ?_ _
  all_goals
    go_wp2
    have hF := (hE.drew.setCell 1 rfl 0 (.string ⟨s2⟩)).setCell 1 rfl 1 (.bool b2)
    simp only [List.set_cons_succ, List.set_cons_zero, List.setIfInBounds_toArray] at hF
    refine bodyPost_ret (results_2cell rfl hF 1 rfl rfl Try.isAgg108 Try.sizeOf108 rfl rfl) rfl ⟨_, rfl, rfl, hF.tail.tail.tail⟩

set_option maxRecDepth 100000 in
theorem rTake_4 {s : St} {l : List HProp} {w : World} (hE : Ent l w) (hb : s.bs.length ≤ 1099511627776) :
    Calls Try.prog 61 #[.agg #[.string ⟨s.bs.toArray⟩, .bool (s.err != 0)], .int .i64 4] w (Ret fun v w' => v = .tuple #[.int .u64 (tkV 4 s), .agg (rcs (tk 4 s)).toArray] ∧ Ent l w') := by
  obtain ⟨e1, e2⟩ := tk_wide (n := 4) rfl s
  rw [e1, e2]
  have hT : ∀ {l : List HProp} {w : World}, Ent l w → Calls Try.prog 63 #[.agg #[.string ⟨s.bs.toArray⟩, .bool (s.err != 0)], .int .i64 4] w (Ret fun v w' => v = .tuple #[.string ⟨(txV 4 s).toArray⟩, .agg #[.string ⟨(tx 4 s).bs.toArray⟩, .bool ((tx 4 s).err != 0)]] ∧ Ent l w') := fun h => rText_any h 4
  have hV : ∀ w, Calls Try.prog 97 #[.string ⟨(txV 4 s).toArray⟩] w (fun e w' => e = .returned (.int .u64 (beVal (txV 4 s))) ∧ w = w') := fun w => Value_any _ w (Nat.le_trans (txV_len _ _) hb)
  unfold rcs
  clear hb e1 e2
  generalize beVal (txV 4 s) = m at *
  generalize txV 4 s = ys at *
  generalize (tx 4 s).bs.toArray = s2 at *
  generalize ((tx 4 s).err != 0) = b2 at *
  generalize s.bs.toArray = s1 at *
  generalize (s.err != 0) = b1 at *
  go_enter Try.func61, Try.ntmps61
  go_wp2_with (first
    | go_skip
    | ((with_reducible (show Go.wpList _ _ _ (Go.Oper.mk _ (.box _ _) _ _ _ _ :: _) _ _)); refine wpl_box hE rfl rfl rfl ?_; clear hE; intro b0 w hE; simp only [Act.eval, Act.put, List.setIfInBounds_toArray, List.set_cons_zero, List.set_cons_succ, getD_lit, List.getD_cons_succ, List.getD_cons_zero, Value.cells] at hE)
    | ((with_reducible (show Go.wpList _ _ _ (Go.Oper.mk _ (.alloc _) _ _ _ _ :: _) _ _)); refine wpl_alloc hE rfl rfl (by simp [go_sem]; rfl) ?_; clear hE; intro b3 w hE1; simp only [Act.eval, Act.put, List.setIfInBounds_toArray, List.set_cons_zero, List.set_cons_succ, getD_lit, List.getD_cons_succ, List.getD_cons_zero, Value.cells] at hE1)
    | (refine wpl_loadW hE1 1 rfl rfl rfl rfl Try.isAgg108 Try.sizeOf108 rfl ?_)
    | (go_at_call 63; have H := hT hE1; refine H.mono ?_; clear H hE1; rintro e w2 ⟨v, rfl, rfl, hE2⟩)
    | ((with_reducible (show Go.wpList _ _ _ (Go.Oper.mk _ (.alloc _) _ _ _ _ :: _) _ _)); refine wpl_alloc hE2 rfl rfl (by simp [go_sem]; rfl) ?_; clear hE2; intro b7 w hE3; simp only [Act.eval, Act.put, List.setIfInBounds_toArray, List.set_cons_zero, List.set_cons_succ, getD_lit, List.getD_cons_succ, List.getD_cons_zero, Value.cells] at hE3)
    | (refine wpl_storeW hE3 0 rfl rfl rfl rfl rfl Try.sizeOf108 rfl (by simp [Value.oneCell']) rfl ?_; clear hE3; intro w hE; simp only [List.set_cons_zero] at hE))
  obtain ⟨⟨n0, n1⟩, nf⟩ := two' hE 1 rfl
  refine wp_region_held_drew (S := (fun w' => w'.cell? ⟨b7, 0, none⟩ = some (.string ⟨s2⟩) ∧ w'.cell? ⟨b7, 1, none⟩ = some (.bool b2))) (by kernel_rfl) (two hE.drew 0 rfl) (fun hS => ?_)
  refine wpAnyH_take (i := 0) (oi := { dst := some 28, op := Go.Op.move (Go.Operand.tmp 6), type := 9, pos := "ref.go:51", after := #[], guard := none }) (v := ?_) rfl (by kernel_rfl) (by kernel_rfl) (by kernel_rfl) (fun _ _ _ h => h) (Or.inl ⟨by rfl, ?_⟩) hS ?_
  rotate_left
  · (intro w hSw; (try dsimp only at hSw); go_simp; (try with_reducible rfl))
  try simp only [Act.put, List.setIfInBounds_toArray, List.set_cons_zero, List.set_cons_succ]
  refine wpAnyH_take (i := 2) (oi := { dst := some 30, op := Go.Op.load 108 (Go.Operand.tmp 7), type := 108, pos := "ref.go:51", after := #[{ on := 3, ground := Go.Ground.gcOnly Go.Departure.lateStores }], guard := none }) (v := ?_) rfl (by kernel_rfl) (by kernel_rfl) (by kernel_rfl) (fun _ _ _ h => h) (Or.inl ⟨by rfl, ?_⟩) hS ?_
  rotate_left
  · (intro w hSw; (try dsimp only at hSw); go_simp; (try with_reducible rfl))
  try simp only [Act.put, List.setIfInBounds_toArray, List.set_cons_zero, List.set_cons_succ]
  refine wpAnyH_ready (rs := [1]) (by kernel_rfl) (by simp) ?_
  refine (AllReadyH.cons (o := { dst := some 29, op := Go.Op.call { callee := Go.Callee.value (Go.Operand.func 97), args := #[Go.Operand.tmp 28], argTypes := #[9] }, type := 91, pos := "ref.go:51", after := #[{ on := 0, ground := Go.Ground.data }], guard := none }) rfl (fun K hK => ?_) AllReadyH.nil)
  (go_simp; refine (hV _).mono ?_; rintro e w3 ⟨rfl, rfl⟩)
  refine hK.out _ _ hS (fun hS => ?_)
  clear hK K
  try simp only [Act.put, List.setIfInBounds_toArray, List.set_cons_zero, List.set_cons_succ]
  refine wpAnyH_take (i := 3) (oi := { dst := some 4, op := Go.Op.assign (Go.Operand.tmp 29), type := 91, pos := "ref.go:51", after := #[{ on := 1, ground := Go.Ground.data }, { on := 1, ground := Go.Ground.chain }, { on := 0, ground := Go.Ground.phase }, { on := 1, ground := Go.Ground.phase }, { on := 2, ground := Go.Ground.textOnly Go.Departure.lateStores }], guard := none }) (v := ?_) rfl (by kernel_rfl) (by kernel_rfl) (by kernel_rfl) (fun _ _ _ h => h) (Or.inl ⟨by rfl, ?_⟩) hS ?_
  rotate_left
  · (intro w hSw; (try dsimp only at hSw); go_simp; (try with_reducible rfl))
  try simp only [Act.put, List.setIfInBounds_toArray, List.set_cons_zero, List.set_cons_succ]
  refine wpAnyH_ready (rs := [4]) (by kernel_rfl) (by simp) ?_
  refine (AllReadyH.cons (o := { dst := none, op := Go.Op.store 108 (Go.Operand.tmp 5) (Go.Operand.tmp 30), type := 0, pos := "ref.go:51", after := #[{ on := 2, ground := Go.Ground.data }, { on := 3, ground := Go.Ground.chain }, { on := 0, ground := Go.Ground.phase }, { on := 1, ground := Go.Ground.phase }, { on := 2, ground := Go.Ground.phase }, { on := 3, ground := Go.Ground.phase }], guard := none }) rfl (fun K hK => ?_) AllReadyH.nil)
  go_simp
  refine hK.out _ _ (two ((hE.drew.setCell 1 rfl 0 (.string ⟨s2⟩)).setCell 1 rfl 1 (.bool b2)) 0 rfl) (fun hS => ?_)
  clear hK K
  try simp only [Act.put, List.setIfInBounds_toArray, List.set_cons_zero, List.set_cons_succ]
  refine wpAnyH_done (by kernel_rfl) ?_ _
  all_goals
    go_wp2
    have hF := (hE.drew.setCell 1 rfl 0 (.string ⟨s2⟩)).setCell 1 rfl 1 (.bool b2)
    simp only [List.set_cons_succ, List.set_cons_zero, List.setIfInBounds_toArray] at hF
    refine bodyPost_ret (results_2cell rfl hF 1 rfl rfl Try.isAgg108 Try.sizeOf108 rfl rfl) rfl ⟨_, rfl, rfl, hF.tail.tail.tail⟩
end Go.Proofs.Ytohdljcpaogokaa
