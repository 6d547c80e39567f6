/-
  The document's own reader of numbers, texts and names, over what is left and the error.
-/
import Derived.Test.YtohdljcpaogokaaSt1
import Derived.Test.YtohdljcpaogokaaSli
import Derived.Test.YtohdljcpaogokaaSlh
import Derived.Deep.RegionHeld3
namespace Go.Proofs.Ytohdljcpaogokaa
open Go.RowKit Go.SL

/-- the document's reader as a value -/
def rcs (s : St) : List Value := [.string ⟨s.bs.toArray⟩, .bool (s.err != 0)]

def ValRel (bs : List UInt8) (n i : Value) : Prop := ∃ k : Nat, k ≤ bs.length ∧ i = .int .i64 k ∧ n = .int .u64 (beVal (bs.take k))

theorem val_step {bs : List UInt8} {k : Nat} (hk : k < bs.length) : IntKind.u64.wrap (IntKind.u64.wrap ((beVal (bs.take k) : Int) * 256) + IntKind.u64.wrap ((bs.getD k 0).toNat : Int)) = (beVal (bs.take (k + 1)) : Int) := by
  rw [List.take_succ_eq_append_getElem hk, beVal_snoc]
  have e : bs.getD k 0 = bs[k] := by simp [List.getD_eq_getElem?_getD, hk]
  rw [e]
  have hc := bs[k].toNat_lt
  generalize bs[k].toNat = c at *
  generalize beVal (bs.take k) = n
  simp only [IntKind.wrap, IntKind.bits, IntKind.signed, Bool.false_and, Bool.false_eq_true, if_false]
  omega

set_option maxRecDepth 100000 in
theorem Value_any (bs : List UInt8) (w : World) (hb : bs.length ≤ 1099511627776) :
    Calls Try.prog 97 #[.string ⟨bs.toArray⟩] w (fun e w' => e = .returned (.int .u64 (beVal bs)) ∧ w = w') := by
  go_enter Try.func97, Try.ntmps97
  go_wp2
  go_loop [3, 4] (fun n i => ValRel bs n i) (fun _ i => bs.length - (intOf i).toNat)
  case atStart => exact ⟨0, Nat.zero_le _, rfl, rfl⟩
  case round =>
    obtain ⟨k, hk, rfl, rfl⟩ := hrel
    by_cases hlt : k < bs.length
    · have ix := fun w => run_index_s (P := Try.prog) Try.underlying9 hlt w
      have hs := val_step hlt
      generalize hg : (bs.getD k 0).toNat = c at *
      clear hg
      generalize hm : beVal (bs.take (k + 1)) = m at *
      generalize beVal (bs.take k) = n at *
      have Hm := SL.hid hm
      clear hm
      go_wp2
      go_round
      case rel => exact ⟨k + 1, hlt, by simp, by rw [Hm.out]⟩
      case measure => simp [intOf]; omega
    · have E1 := SL.hid (show k = bs.length by omega)
      go_wp2
      go_ret
      have hk := E1.out
      subst hk
      rw [List.take_length]
      exact ⟨rfl, rfl⟩

theorem tk_cases' (n : Int) (s : St) : (tkOk n s.bs s.err = false ∧ tx n s = ⟨s.bs, if s.err == 0 then 3 else s.err⟩ ∧ txV n s = []) ∨ (s.err = 0 ∧ ∃ k : Nat, n = k ∧ k ≤ s.bs.length ∧ tkOk n s.bs s.err = true ∧ tx n s = ⟨s.bs.drop k, 0⟩ ∧ txV n s = s.bs.take k) := by
  obtain ⟨bs, err⟩ := s
  cases h : tkOk n bs err with
  | false =>
    refine .inl ⟨rfl, ?_, ?_⟩
    · simp only [tx, tkB, tkE, h, Bool.false_eq_true, if_false]
      congr 1
      simp only [tkOk] at h
      cases h0 : err == 0 with
      | false => simp
      | true =>
        rw [h0] at h
        simp only [Bool.true_and] at h
        rw [h]
        simp
    · simp only [txV, strT, h, Bool.false_eq_true, if_false]
  | true =>
    have h' := h
    simp only [tkOk, Bool.and_eq_true, beq_iff_eq, decide_eq_true_eq] at h
    obtain ⟨⟨h1, h2⟩, h3⟩ := h
    obtain ⟨k, rfl⟩ := Int.eq_ofNat_of_zero_le h2
    have a1 : decide ((0 : Int) ≤ (k : Int)) = true := decide_eq_true h2
    have a2 : decide ((k : Int) ≤ (bs.length : Int)) = true := decide_eq_true h3
    refine .inr ⟨h1, k, rfl, by simpa using h3, rfl, ?_, ?_⟩
    · subst h1
      simp only [tx, tkB, tkE, h', if_true, Int.toNat_natCast, a1, a2]
      rfl
    · simp only [txV, strT, h', if_true, Int.toNat_natCast]

theorem results_2cell {P : Program} {w : World} {l : List HProp} {fn : Func} {k j : Tmp} {t : TypeId} (h : fn.results = #[.tmp j, .cell k t]) {tmps : Array Value} (hE : Ent l w) (i : Nat) {b : Nat} {xs : List Value} {T : TypeId} {fz : Nat × Nat} (hi : l[i]? = some (pt b (.cells xs.toArray T fz)))
    (hp : tmps.getD k undef = .pointer (some ⟨b, 0, none⟩)) (hA : ∀ w, (isAgg t).run P w = .ok true w) {n : Nat} (hn : ∀ w, (Go.sizeOf t).run P w = .ok n w) (hl : xs.length = n) {v : Value} (hv : tmps.getD j undef = v) : (results fn tmps).run P w = .ok (.tuple #[v, .agg xs.toArray]) w := by
  have hp' : tmps[k]?.getD undef = .pointer (some ⟨b, 0, none⟩) := by simpa using hp
  have hv' : tmps[j]?.getD undef = v := by simpa using hv
  simp only [results, h]
  simp [hp', hv', asAddr, run_resultA hE i hi hA hn hl]

theorem two {l : List HProp} {w : World} (hE : Ent l w) (i : Nat) {b : Nat} {u v : Value} {T : TypeId} {fz : Nat × Nat} (hi : l[i]? = some (pt b (.cells #[u, v] T fz))) : w.cell? ⟨b, 0, none⟩ = some u ∧ w.cell? ⟨b, 1, none⟩ = some v :=
  ⟨hE.cell i hi 0, hE.cell i hi 1⟩
theorem two' {l : List HProp} {w : World} (hE : Ent l w) (i : Nat) {b : Nat} {u v : Value} {T : TypeId} (hi : l[i]? = some (pt b (.cells #[u, v] T (0, 0)))) : (w.cell? ⟨b, 0, none⟩ = some u ∧ w.cell? ⟨b, 1, none⟩ = some v) ∧ ∀ o, w.frozen? ⟨b, o, none⟩ = false :=
  ⟨⟨hE.cell i hi 0, hE.cell i hi 1⟩, fun o => hE.frozen i hi o⟩

set_option maxRecDepth 100000 in
theorem rText_bad {s : St} (he : (s.err == 0) = false) {l : List HProp} {w : World} (hE : Ent l w) (n : Int) :
    Calls Try.prog 63 #[.agg #[.string ⟨s.bs.toArray⟩, .bool (s.err != 0)], .int .i64 n] w (Ret fun v w' => v = .tuple #[.string ⟨#[]⟩, .agg (rcs s).toArray] ∧ Ent l w') := by
  unfold rcs
  have he' : (s.err != 0) = true := by simp only [bne, he]; rfl
  rw [he']
  clear he he'
  generalize s.bs.toArray = ss
  go_enter Try.func63, Try.ntmps63
  go_wp2_with (first | ((with_reducible (show Go.wpList _ _ _ (Go.Oper.mk _ (.box _ _) _ _ _ _ :: _) _ _)); refine wpl_box hE rfl rfl rfl ?_; clear hE; intro b0 w hE; simp only [Act.eval, Act.put, List.setIfInBounds_toArray, List.set_cons_zero, List.set_cons_succ, getD_lit, List.getD_cons_succ, List.getD_cons_zero, Value.cells] at hE) | ((with_reducible (show Go.wpList _ _ _ (Go.Oper.mk _ (.alloc _) _ _ _ _ :: _) _ _)); refine wpl_alloc hE rfl rfl (by simp [go_sem]; rfl) ?_; clear hE; intro b w hE; simp only [Act.eval, Act.put, List.setIfInBounds_toArray, List.set_cons_zero, List.set_cons_succ, getD_lit, List.getD_cons_succ, List.getD_cons_zero, Value.cells] at hE) | ((with_reducible (show Go.wpList _ _ _ (Go.Oper.mk _ (.load _ _) _ _ _ _ :: _) _ _)); first | (refine wpl_load1 hE 0 rfl rfl rfl rfl (by simp [go_sem]) rfl ?_) | (refine wpl_load1 hE 1 rfl rfl rfl rfl (by simp [go_sem]) rfl ?_) | (refine wpl_load1 hE 2 rfl rfl rfl rfl (by simp [go_sem]) rfl ?_) | (refine wpl_load1 hE 3 rfl rfl rfl rfl (by simp [go_sem]) rfl ?_) | (refine wpl_load1 hE 4 rfl rfl rfl rfl (by simp [go_sem]) rfl ?_) | (refine wpl_load1 hE 5 rfl rfl rfl rfl (by simp [go_sem]) rfl ?_)))
  obtain ⟨⟨n0, n1⟩, nf⟩ := two' hE 0 rfl
  refine wp_region_held_drew (S := (fun w' => w'.cell? ⟨b0, 0, none⟩ = some (.string ⟨ss⟩) ∧ w'.cell? ⟨b0, 1, none⟩ = some (.bool true))) (by kernel_rfl) (two hE.drew 1 rfl) (fun hS => ?_)
  refine wpAnyH_take (i := 0) (oi := { dst := some 8, op := Go.Op.load 108 (Go.Operand.tmp 2), type := 108, pos := "ref.go:37", after := #[{ on := 1, ground := Go.Ground.gcOnly Go.Departure.lateStores }], guard := none }) (v := ?_) rfl (by kernel_rfl) (by kernel_rfl) (by kernel_rfl) (fun _ _ _ h => h) (Or.inl ⟨by rfl, ?_⟩) hS ?_
  rotate_left
  · (intro w hSw; (try dsimp only at hSw); go_simp; (try with_reducible rfl))
  try simp only [Act.put, List.setIfInBounds_toArray, List.set_cons_zero, List.set_cons_succ]
  refine wpAnyH_take (i := 1) (oi := { dst := some 4, op := Go.Op.assign (Go.Operand.const (Go.Value.string { data := #[] })), type := 9, pos := "ref.go:37", after := #[{ on := 0, ground := Go.Ground.textOnly Go.Departure.lateStores }], guard := none }) (v := ?_) rfl (by kernel_rfl) (by kernel_rfl) (by kernel_rfl) (fun _ _ _ h => h) (Or.inl ⟨by rfl, ?_⟩) hS ?_
  rotate_left
  · (intro w hSw; (try dsimp only at hSw); go_simp; (try with_reducible rfl))
  try simp only [Act.put, List.setIfInBounds_toArray, List.set_cons_zero, List.set_cons_succ]
  refine wpAnyH_ready (rs := [2]) (by kernel_rfl) (by simp) ?_
  refine (AllReadyH.cons (o := { dst := none, op := Go.Op.store 108 (Go.Operand.tmp 5) (Go.Operand.tmp 8), type := 0, pos := "ref.go:37", after := #[{ on := 0, ground := Go.Ground.data }, { on := 1, ground := Go.Ground.chain }, { on := 0, ground := Go.Ground.phase }, { on := 1, ground := Go.Ground.phase }], guard := none }) rfl (fun K hK => ?_) AllReadyH.nil)
  go_simp
  refine hK.out _ _ (two ((hE.drew.setCell 0 rfl 0 (.string ⟨ss⟩)).setCell 0 rfl 1 (.bool true)) 1 rfl) (fun hS => ?_)
  clear hK K
  try simp only [Act.put, List.setIfInBounds_toArray, List.set_cons_zero, List.set_cons_succ]
  refine wpAnyH_done (by kernel_rfl) ?_ _
  go_wp2
  have hF := (hE.drew.setCell 0 rfl 0 (.string ⟨ss⟩)).setCell 0 rfl 1 (.bool true)
  simp only [List.set_cons_succ, List.set_cons_zero, List.setIfInBounds_toArray] at hF
  refine bodyPost_ret (results_2cell rfl hF 0 rfl rfl Try.isAgg108 Try.sizeOf108 rfl rfl) rfl ⟨_, rfl, rfl, hF.tail.tail⟩

set_option maxRecDepth 100000 in
theorem rText_neg {bs : List UInt8} {l : List HProp} {w : World} (hE : Ent l w) (n : Int) (hn : decide (n < 0) = true) :
    Calls Try.prog 63 #[.agg #[.string ⟨bs.toArray⟩, .bool false], .int .i64 n] w (Ret fun v w' => v = .tuple #[.string ⟨#[]⟩, .agg #[.string ⟨bs.toArray⟩, .bool true]] ∧ Ent l w') := by
  generalize bs.toArray = ss
  go_enter Try.func63, Try.ntmps63
  go_wp2_with (first | go_skip | ((with_reducible (show Go.wpList _ _ _ (Go.Oper.mk _ (.box _ _) _ _ _ _ :: _) _ _)); refine wpl_box hE rfl rfl rfl ?_; clear hE; intro b0 w hE; simp only [Act.eval, Act.put, List.setIfInBounds_toArray, List.set_cons_zero, List.set_cons_succ, getD_lit, List.getD_cons_succ, List.getD_cons_zero, Value.cells] at hE) | ((with_reducible (show Go.wpList _ _ _ (Go.Oper.mk _ (.alloc _) _ _ _ _ :: _) _ _)); refine wpl_alloc hE rfl rfl (by simp [go_sem]; rfl) ?_; clear hE; intro b w hE; simp only [Act.eval, Act.put, List.setIfInBounds_toArray, List.set_cons_zero, List.set_cons_succ, getD_lit, List.getD_cons_succ, List.getD_cons_zero, Value.cells] at hE) | ((with_reducible (show Go.wpList _ _ _ (Go.Oper.mk _ (.load _ _) _ _ _ _ :: _) _ _)); first | (refine wpl_load1 hE 0 rfl rfl rfl rfl (by simp [go_sem]) rfl ?_) | (refine wpl_load1 hE 1 rfl rfl rfl rfl (by simp [go_sem]) rfl ?_) | (refine wpl_load1 hE 2 rfl rfl rfl rfl (by simp [go_sem]) rfl ?_) | (refine wpl_load1 hE 3 rfl rfl rfl rfl (by simp [go_sem]) rfl ?_) | (refine wpl_load1 hE 4 rfl rfl rfl rfl (by simp [go_sem]) rfl ?_) | (refine wpl_load1 hE 5 rfl rfl rfl rfl (by simp [go_sem]) rfl ?_)))
  obtain ⟨⟨n0, n1⟩, nf⟩ := two' hE 0 rfl
  refine wp_region_held_drew (S := (fun w' => w'.cell? ⟨b0, 0, none⟩ = some (.string ⟨ss⟩) ∧ w'.cell? ⟨b0, 1, none⟩ = some (.bool false))) (by kernel_rfl) (two hE.drew 1 rfl) (fun hS => ?_)
  refine wpAnyH_take (i := 0) (oi := { dst := some 18, op := Go.Op.fieldAddr 108 (Go.Operand.tmp 2) 0, type := 0, pos := "ref.go:40", after := #[{ on := 3, ground := Go.Ground.gcOnly Go.Departure.lateStores }], guard := none }) (v := ?_) rfl (by kernel_rfl) (by kernel_rfl) (by kernel_rfl) (fun _ _ _ h => h) (Or.inl ⟨by rfl, ?_⟩) hS ?_
  rotate_left
  · (intro w hSw; (try dsimp only at hSw); go_simp; (try with_reducible rfl))
  try simp only [Act.put, List.setIfInBounds_toArray, List.set_cons_zero, List.set_cons_succ]
  refine wpAnyH_take (i := 1) (oi := { dst := some 19, op := Go.Op.load 9 (Go.Operand.tmp 18), type := 9, pos := "ref.go:40", after := #[{ on := 0, ground := Go.Ground.data }, { on := 3, ground := Go.Ground.gcOnly Go.Departure.lateStores }], guard := none }) (v := ?_) rfl (by kernel_rfl) (by kernel_rfl) (by kernel_rfl) (fun _ _ _ h => h) (Or.inl ⟨by rfl, ?_⟩) hS ?_
  rotate_left
  · (intro w hSw; (try dsimp only at hSw); go_simp; (try with_reducible rfl))
  try simp only [Act.put, List.setIfInBounds_toArray, List.set_cons_zero, List.set_cons_succ]
  refine wpAnyH_take (i := 2) (oi := { dst := some 20, op := Go.Op.build 108 #[(0, Go.Operand.tmp 19), (1, Go.Operand.const (Go.Value.bool true))], type := 108, pos := "ref.go:40", after := #[{ on := 1, ground := Go.Ground.data }, { on := 3, ground := Go.Ground.gcOnly Go.Departure.lateStores }], guard := none }) (v := ?_) rfl (by kernel_rfl) (by kernel_rfl) (by kernel_rfl) (fun _ _ _ h => h) (Or.inl ⟨by rfl, ?_⟩) hS ?_
  rotate_left
  · (intro w hSw; (try dsimp only at hSw); go_simp; (try with_reducible rfl))
  try simp only [Act.put, List.setIfInBounds_toArray, List.set_cons_zero, List.set_cons_succ]
  refine wpAnyH_take (i := 3) (oi := { dst := some 4, op := Go.Op.assign (Go.Operand.const (Go.Value.string { data := #[] })), type := 9, pos := "ref.go:40", after := #[{ on := 0, ground := Go.Ground.textOnly Go.Departure.lateStores }, { on := 1, ground := Go.Ground.textOnly Go.Departure.lateStores }, { on := 2, ground := Go.Ground.textOnly Go.Departure.lateStores }], guard := none }) (v := ?_) rfl (by kernel_rfl) (by kernel_rfl) (by kernel_rfl) (fun _ _ _ h => h) (Or.inl ⟨by rfl, ?_⟩) hS ?_
  rotate_left
  · (intro w hSw; (try dsimp only at hSw); go_simp; (try with_reducible rfl))
  try simp only [Act.put, List.setIfInBounds_toArray, List.set_cons_zero, List.set_cons_succ]
  refine wpAnyH_ready (rs := [4]) (by kernel_rfl) (by simp) ?_
  refine (AllReadyH.cons (o := { dst := none, op := Go.Op.store 108 (Go.Operand.tmp 5) (Go.Operand.tmp 20), type := 0, pos := "ref.go:40", after := #[{ on := 2, ground := Go.Ground.data }, { on := 3, ground := Go.Ground.chain }, { on := 0, ground := Go.Ground.phase }, { on := 1, ground := Go.Ground.phase }, { on := 2, ground := Go.Ground.phase }, { on := 3, ground := Go.Ground.phase }], guard := none }) rfl (fun K hK => ?_) AllReadyH.nil)
  go_simp
  refine hK.out _ _ (two ((hE.drew.setCell 0 rfl 0 (.string ⟨ss⟩)).setCell 0 rfl 1 (.bool true)) 1 rfl) (fun hS => ?_)
  clear hK K
  try simp only [Act.put, List.setIfInBounds_toArray, List.set_cons_zero, List.set_cons_succ]
  refine wpAnyH_done (by kernel_rfl) ?_ _
  go_wp2
  have hF := (hE.drew.setCell 0 rfl 0 (.string ⟨ss⟩)).setCell 0 rfl 1 (.bool true)
  simp only [List.set_cons_succ, List.set_cons_zero, List.setIfInBounds_toArray] at hF
  refine bodyPost_ret (results_2cell rfl hF 0 rfl rfl Try.isAgg108 Try.sizeOf108 rfl rfl) rfl ⟨_, rfl, rfl, hF.tail.tail⟩

set_option maxRecDepth 100000 in
theorem rText_many {bs : List UInt8} {l : List HProp} {w : World} (hE : Ent l w) (n : Int) (hn : decide (n < 0) = false) (hn' : decide ((bs.length : Int) < n) = true) :
    Calls Try.prog 63 #[.agg #[.string ⟨bs.toArray⟩, .bool false], .int .i64 n] w (Ret fun v w' => v = .tuple #[.string ⟨#[]⟩, .agg #[.string ⟨bs.toArray⟩, .bool true]] ∧ Ent l w') := by
  go_enter Try.func63, Try.ntmps63
  go_wp2_with (first | go_skip | ((with_reducible (show Go.wpList _ _ _ (Go.Oper.mk _ (.box _ _) _ _ _ _ :: _) _ _)); refine wpl_box hE rfl rfl rfl ?_; clear hE; intro b0 w hE; simp only [Act.eval, Act.put, List.setIfInBounds_toArray, List.set_cons_zero, List.set_cons_succ, getD_lit, List.getD_cons_succ, List.getD_cons_zero, Value.cells] at hE) | ((with_reducible (show Go.wpList _ _ _ (Go.Oper.mk _ (.alloc _) _ _ _ _ :: _) _ _)); refine wpl_alloc hE rfl rfl (by simp [go_sem]; rfl) ?_; clear hE; intro b w hE; simp only [Act.eval, Act.put, List.setIfInBounds_toArray, List.set_cons_zero, List.set_cons_succ, getD_lit, List.getD_cons_succ, List.getD_cons_zero, Value.cells] at hE) | ((with_reducible (show Go.wpList _ _ _ (Go.Oper.mk _ (.load _ _) _ _ _ _ :: _) _ _)); first | (refine wpl_load1 hE 0 rfl rfl rfl rfl (by simp [go_sem]) rfl ?_) | (refine wpl_load1 hE 1 rfl rfl rfl rfl (by simp [go_sem]) rfl ?_) | (refine wpl_load1 hE 2 rfl rfl rfl rfl (by simp [go_sem]) rfl ?_) | (refine wpl_load1 hE 3 rfl rfl rfl rfl (by simp [go_sem]) rfl ?_) | (refine wpl_load1 hE 4 rfl rfl rfl rfl (by simp [go_sem]) rfl ?_) | (refine wpl_load1 hE 5 rfl rfl rfl rfl (by simp [go_sem]) rfl ?_)))
  obtain ⟨⟨n0, n1⟩, nf⟩ := two' hE 0 rfl
  refine wp_region_held_drew (S := (fun w' => w'.cell? ⟨b0, 0, none⟩ = some (.string ⟨bs.toArray⟩) ∧ w'.cell? ⟨b0, 1, none⟩ = some (.bool false))) (by kernel_rfl) (two hE.drew 1 rfl) (fun hS => ?_)
  refine wpAnyH_take (i := 0) (oi := { dst := some 18, op := Go.Op.fieldAddr 108 (Go.Operand.tmp 2) 0, type := 0, pos := "ref.go:40", after := #[{ on := 3, ground := Go.Ground.gcOnly Go.Departure.lateStores }], guard := none }) (v := ?_) rfl (by kernel_rfl) (by kernel_rfl) (by kernel_rfl) (fun _ _ _ h => h) (Or.inl ⟨by rfl, ?_⟩) hS ?_
  rotate_left
  · (intro w hSw; (try dsimp only at hSw); go_simp; (try with_reducible rfl))
  try simp only [Act.put, List.setIfInBounds_toArray, List.set_cons_zero, List.set_cons_succ]
  refine wpAnyH_take (i := 1) (oi := { dst := some 19, op := Go.Op.load 9 (Go.Operand.tmp 18), type := 9, pos := "ref.go:40", after := #[{ on := 0, ground := Go.Ground.data }, { on := 3, ground := Go.Ground.gcOnly Go.Departure.lateStores }], guard := none }) (v := ?_) rfl (by kernel_rfl) (by kernel_rfl) (by kernel_rfl) (fun _ _ _ h => h) (Or.inl ⟨by rfl, ?_⟩) hS ?_
  rotate_left
  · (intro w hSw; (try dsimp only at hSw); go_simp; (try with_reducible rfl))
  try simp only [Act.put, List.setIfInBounds_toArray, List.set_cons_zero, List.set_cons_succ]
  refine wpAnyH_take (i := 2) (oi := { dst := some 20, op := Go.Op.build 108 #[(0, Go.Operand.tmp 19), (1, Go.Operand.const (Go.Value.bool true))], type := 108, pos := "ref.go:40", after := #[{ on := 1, ground := Go.Ground.data }, { on := 3, ground := Go.Ground.gcOnly Go.Departure.lateStores }], guard := none }) (v := ?_) rfl (by kernel_rfl) (by kernel_rfl) (by kernel_rfl) (fun _ _ _ h => h) (Or.inl ⟨by rfl, ?_⟩) hS ?_
  rotate_left
  · (intro w hSw; (try dsimp only at hSw); go_simp; (try with_reducible rfl))
  try simp only [Act.put, List.setIfInBounds_toArray, List.set_cons_zero, List.set_cons_succ]
  refine wpAnyH_take (i := 3) (oi := { dst := some 4, op := Go.Op.assign (Go.Operand.const (Go.Value.string { data := #[] })), type := 9, pos := "ref.go:40", after := #[{ on := 0, ground := Go.Ground.textOnly Go.Departure.lateStores }, { on := 1, ground := Go.Ground.textOnly Go.Departure.lateStores }, { on := 2, ground := Go.Ground.textOnly Go.Departure.lateStores }], guard := none }) (v := ?_) rfl (by kernel_rfl) (by kernel_rfl) (by kernel_rfl) (fun _ _ _ h => h) (Or.inl ⟨by rfl, ?_⟩) hS ?_
  rotate_left
  · (intro w hSw; (try dsimp only at hSw); go_simp; (try with_reducible rfl))
  try simp only [Act.put, List.setIfInBounds_toArray, List.set_cons_zero, List.set_cons_succ]
  refine wpAnyH_ready (rs := [4]) (by kernel_rfl) (by simp) ?_
  refine (AllReadyH.cons (o := { dst := none, op := Go.Op.store 108 (Go.Operand.tmp 5) (Go.Operand.tmp 20), type := 0, pos := "ref.go:40", after := #[{ on := 2, ground := Go.Ground.data }, { on := 3, ground := Go.Ground.chain }, { on := 0, ground := Go.Ground.phase }, { on := 1, ground := Go.Ground.phase }, { on := 2, ground := Go.Ground.phase }, { on := 3, ground := Go.Ground.phase }], guard := none }) rfl (fun K hK => ?_) AllReadyH.nil)
  go_simp
  refine hK.out _ _ (two ((hE.drew.setCell 0 rfl 0 (.string ⟨bs.toArray⟩)).setCell 0 rfl 1 (.bool true)) 1 rfl) (fun hS => ?_)
  clear hK K
  try simp only [Act.put, List.setIfInBounds_toArray, List.set_cons_zero, List.set_cons_succ]
  refine wpAnyH_done (by kernel_rfl) ?_ _
  go_wp2
  have hF := (hE.drew.setCell 0 rfl 0 (.string ⟨bs.toArray⟩)).setCell 0 rfl 1 (.bool true)
  simp only [List.set_cons_succ, List.set_cons_zero, List.setIfInBounds_toArray] at hF
  refine bodyPost_ret (results_2cell rfl hF 0 rfl rfl Try.isAgg108 Try.sizeOf108 rfl rfl) rfl ⟨_, rfl, rfl, hF.tail.tail⟩

set_option maxRecDepth 100000 in
theorem rText_ok {bs : List UInt8} {l : List HProp} {w : World} (hE : Ent l w) (k : Nat) (hk : k ≤ bs.length) :
    Calls Try.prog 63 #[.agg #[.string ⟨bs.toArray⟩, .bool false], .int .i64 k] w (Ret fun v w' => v = .tuple #[.string ⟨(bs.take k).toArray⟩, .agg #[.string ⟨(bs.drop k).toArray⟩, .bool false]] ∧ Ent l w') := by
  have hn : decide ((k : Int) < 0) = false := decide_eq_false (by omega)
  have hn' : decide ((bs.length : Int) < (k : Int)) = false := decide_eq_false (by omega)
  have s1 := fun w => run_slice_sHi (P := Try.prog) Try.underlying9 hk w
  have s2 := fun w => run_slice_sLo (P := Try.prog) Try.underlying9 hk w
  generalize (bs.take k) = b1 at *
  generalize (bs.drop k) = b2 at *
  go_enter Try.func63, Try.ntmps63
  go_wp2_with (first | go_skip | ((with_reducible (show Go.wpList _ _ _ (Go.Oper.mk _ (.box _ _) _ _ _ _ :: _) _ _)); refine wpl_box hE rfl rfl rfl ?_; clear hE; intro b0 w hE; simp only [Act.eval, Act.put, List.setIfInBounds_toArray, List.set_cons_zero, List.set_cons_succ, getD_lit, List.getD_cons_succ, List.getD_cons_zero, Value.cells] at hE) | ((with_reducible (show Go.wpList _ _ _ (Go.Oper.mk _ (.alloc _) _ _ _ _ :: _) _ _)); refine wpl_alloc hE rfl rfl (by simp [go_sem]; rfl) ?_; clear hE; intro b w hE; simp only [Act.eval, Act.put, List.setIfInBounds_toArray, List.set_cons_zero, List.set_cons_succ, getD_lit, List.getD_cons_succ, List.getD_cons_zero, Value.cells] at hE) | ((with_reducible (show Go.wpList _ _ _ (Go.Oper.mk _ (.load _ _) _ _ _ _ :: _) _ _)); first | (refine wpl_load1 hE 0 rfl rfl rfl rfl (by simp [go_sem]) rfl ?_) | (refine wpl_load1 hE 1 rfl rfl rfl rfl (by simp [go_sem]) rfl ?_) | (refine wpl_load1 hE 2 rfl rfl rfl rfl (by simp [go_sem]) rfl ?_) | (refine wpl_load1 hE 3 rfl rfl rfl rfl (by simp [go_sem]) rfl ?_) | (refine wpl_load1 hE 4 rfl rfl rfl rfl (by simp [go_sem]) rfl ?_) | (refine wpl_load1 hE 5 rfl rfl rfl rfl (by simp [go_sem]) rfl ?_)))
  obtain ⟨⟨n0, n1⟩, nf⟩ := two' hE 0 rfl
  refine wp_region_held_drew (S := (fun w' => w'.cell? ⟨b0, 0, none⟩ = some (.string ⟨bs.toArray⟩) ∧ w'.cell? ⟨b0, 1, none⟩ = some (.bool false))) (by kernel_rfl) (two hE.drew 1 rfl) (fun hS => ?_)
  refine wpAnyH_take (i := 0) (oi := { dst := some 21, op := Go.Op.fieldAddr 108 (Go.Operand.tmp 2) 0, type := 0, pos := "ref.go:42", after := #[], guard := none }) (v := ?_) rfl (by kernel_rfl) (by kernel_rfl) (by kernel_rfl) (fun _ _ _ h => h) (Or.inl ⟨by rfl, ?_⟩) hS ?_
  rotate_left
  · (intro w hSw; (try dsimp only at hSw); go_simp; (try with_reducible rfl))
  try simp only [Act.put, List.setIfInBounds_toArray, List.set_cons_zero, List.set_cons_succ]
  refine wpAnyH_take (i := 1) (oi := { dst := some 22, op := Go.Op.load 9 (Go.Operand.tmp 21), type := 9, pos := "ref.go:42", after := #[{ on := 0, ground := Go.Ground.data }], guard := none }) (v := ?_) rfl (by kernel_rfl) (by kernel_rfl) (by kernel_rfl) (fun _ _ _ h => h) (Or.inl ⟨by rfl, ?_⟩) hS ?_
  rotate_left
  · (intro w hSw; (try dsimp only at hSw); go_simp; (try with_reducible rfl))
  try simp only [Act.put, List.setIfInBounds_toArray, List.set_cons_zero, List.set_cons_succ]
  refine wpAnyH_take (i := 2) (oi := { dst := some 23, op := Go.Op.move (Go.Operand.tmp 1), type := 3, pos := "ref.go:42", after := #[], guard := none }) (v := ?_) rfl (by kernel_rfl) (by kernel_rfl) (by kernel_rfl) (fun _ _ _ h => h) (Or.inl ⟨by rfl, ?_⟩) hS ?_
  rotate_left
  · (intro w hSw; (try dsimp only at hSw); go_simp; (try with_reducible rfl))
  try simp only [Act.put, List.setIfInBounds_toArray, List.set_cons_zero, List.set_cons_succ]
  refine wpAnyH_take (i := 3) (oi := { dst := some 24, op := Go.Op.slice 9 (Go.Operand.tmp 22) none (some (Go.Operand.tmp 23)) none, type := 9, pos := "ref.go:42", after := #[{ on := 1, ground := Go.Ground.data }, { on := 2, ground := Go.Ground.data }], guard := none }) (v := ?_) rfl (by kernel_rfl) (by kernel_rfl) (by kernel_rfl) (fun _ _ _ h => h) (Or.inl ⟨by rfl, ?_⟩) hS ?_
  rotate_left
  · (intro w hSw; (try dsimp only at hSw); go_simp; (try with_reducible rfl))
  try simp only [Act.put, List.setIfInBounds_toArray, List.set_cons_zero, List.set_cons_succ]
  refine wpAnyH_take (i := 4) (oi := { dst := some 25, op := Go.Op.fieldAddr 108 (Go.Operand.tmp 2) 0, type := 0, pos := "ref.go:42", after := #[], guard := none }) (v := ?_) rfl (by kernel_rfl) (by kernel_rfl) (by kernel_rfl) (fun _ _ _ h => h) (Or.inl ⟨by rfl, ?_⟩) hS ?_
  rotate_left
  · (intro w hSw; (try dsimp only at hSw); go_simp; (try with_reducible rfl))
  try simp only [Act.put, List.setIfInBounds_toArray, List.set_cons_zero, List.set_cons_succ]
  refine wpAnyH_take (i := 5) (oi := { dst := some 26, op := Go.Op.load 9 (Go.Operand.tmp 25), type := 9, pos := "ref.go:42", after := #[{ on := 4, ground := Go.Ground.data }], guard := none }) (v := ?_) rfl (by kernel_rfl) (by kernel_rfl) (by kernel_rfl) (fun _ _ _ h => h) (Or.inl ⟨by rfl, ?_⟩) hS ?_
  rotate_left
  · (intro w hSw; (try dsimp only at hSw); go_simp; (try with_reducible rfl))
  try simp only [Act.put, List.setIfInBounds_toArray, List.set_cons_zero, List.set_cons_succ]
  refine wpAnyH_take (i := 6) (oi := { dst := some 27, op := Go.Op.move (Go.Operand.tmp 1), type := 3, pos := "ref.go:42", after := #[], guard := none }) (v := ?_) rfl (by kernel_rfl) (by kernel_rfl) (by kernel_rfl) (fun _ _ _ h => h) (Or.inl ⟨by rfl, ?_⟩) hS ?_
  rotate_left
  · (intro w hSw; (try dsimp only at hSw); go_simp; (try with_reducible rfl))
  try simp only [Act.put, List.setIfInBounds_toArray, List.set_cons_zero, List.set_cons_succ]
  refine wpAnyH_take (i := 7) (oi := { dst := some 28, op := Go.Op.slice 9 (Go.Operand.tmp 26) (some (Go.Operand.tmp 27)) none none, type := 9, pos := "ref.go:42", after := #[{ on := 5, ground := Go.Ground.data }, { on := 6, ground := Go.Ground.data }], guard := none }) (v := ?_) rfl (by kernel_rfl) (by kernel_rfl) (by kernel_rfl) (fun _ _ _ h => h) (Or.inl ⟨by rfl, ?_⟩) hS ?_
  rotate_left
  · (intro w hSw; (try dsimp only at hSw); go_simp; (try with_reducible rfl))
  try simp only [Act.put, List.setIfInBounds_toArray, List.set_cons_zero, List.set_cons_succ]
  refine wpAnyH_take (i := 8) (oi := { dst := some 29, op := Go.Op.build 108 #[(0, Go.Operand.tmp 28), (1, Go.Operand.const (Go.Value.bool false))], type := 108, pos := "ref.go:42", after := #[{ on := 7, ground := Go.Ground.data }, { on := 9, ground := Go.Ground.gcOnly Go.Departure.lateStores }], guard := none }) (v := ?_) rfl (by kernel_rfl) (by kernel_rfl) (by kernel_rfl) (fun _ _ _ h => h) (Or.inl ⟨by rfl, ?_⟩) hS ?_
  rotate_left
  · (intro w hSw; (try dsimp only at hSw); go_simp; (try with_reducible rfl))
  try simp only [Act.put, List.setIfInBounds_toArray, List.set_cons_zero, List.set_cons_succ]
  refine wpAnyH_take (i := 9) (oi := { dst := some 4, op := Go.Op.assign (Go.Operand.tmp 24), type := 9, pos := "ref.go:42", after := #[{ on := 3, ground := Go.Ground.data }, { on := 0, ground := Go.Ground.phase }, { on := 1, ground := Go.Ground.phase }, { on := 2, ground := Go.Ground.phase }, { on := 3, ground := Go.Ground.phase }, { on := 4, ground := Go.Ground.textOnly Go.Departure.lateStores }, { on := 5, ground := Go.Ground.textOnly Go.Departure.lateStores }, { on := 6, ground := Go.Ground.textOnly Go.Departure.lateStores }, { on := 7, ground := Go.Ground.textOnly Go.Departure.lateStoresUnsure }, { on := 8, ground := Go.Ground.textOnly Go.Departure.lateStores }], guard := none }) (v := ?_) rfl (by kernel_rfl) (by kernel_rfl) (by kernel_rfl) (fun _ _ _ h => h) (Or.inl ⟨by rfl, ?_⟩) hS ?_
  rotate_left
  · (intro w hSw; (try dsimp only at hSw); go_simp; (try with_reducible rfl))
  try simp only [Act.put, List.setIfInBounds_toArray, List.set_cons_zero, List.set_cons_succ]
  refine wpAnyH_ready (rs := [10]) (by kernel_rfl) (by simp) ?_
  refine (AllReadyH.cons (o := { dst := none, op := Go.Op.store 108 (Go.Operand.tmp 5) (Go.Operand.tmp 29), type := 0, pos := "ref.go:42", after := #[{ on := 8, ground := Go.Ground.data }, { on := 9, ground := Go.Ground.chain }, { on := 0, ground := Go.Ground.phase }, { on := 1, ground := Go.Ground.phase }, { on := 2, ground := Go.Ground.phase }, { on := 3, ground := Go.Ground.phase }, { on := 4, ground := Go.Ground.phase }, { on := 5, ground := Go.Ground.phase }, { on := 6, ground := Go.Ground.phase }, { on := 7, ground := Go.Ground.phase }, { on := 8, ground := Go.Ground.phase }, { on := 9, ground := Go.Ground.phase }], guard := none }) rfl (fun K hK => ?_) AllReadyH.nil)
  go_simp
  refine hK.out _ _ (two ((hE.drew.setCell 0 rfl 0 (.string ⟨b2.toArray⟩)).setCell 0 rfl 1 (.bool false)) 1 rfl) (fun hS => ?_)
  clear hK K
  try simp only [Act.put, List.setIfInBounds_toArray, List.set_cons_zero, List.set_cons_succ]
  refine wpAnyH_done (by kernel_rfl) ?_ _
  go_wp2
  have hF := (hE.drew.setCell 0 rfl 0 (.string ⟨b2.toArray⟩)).setCell 0 rfl 1 (.bool false)
  simp only [List.set_cons_succ, List.set_cons_zero, List.setIfInBounds_toArray] at hF
  refine bodyPost_ret (results_2cell rfl hF 0 rfl rfl Try.isAgg108 Try.sizeOf108 rfl rfl) rfl ⟨_, rfl, rfl, hF.tail.tail⟩

theorem rText_any {s : St} {l : List HProp} {w : World} (hE : Ent l w) (n : Int) :
    Calls Try.prog 63 #[.agg #[.string ⟨s.bs.toArray⟩, .bool (s.err != 0)], .int .i64 n] w (Ret fun v w' => v = .tuple #[.string ⟨(txV n s).toArray⟩, .agg (rcs (tx n s)).toArray] ∧ Ent l w') := by
  cases he : (s.err == 0) with
  | false =>
    rcases tk_cases' n s with ⟨h0, h1, h2⟩ | ⟨h0, _⟩
    · rw [h1, h2]
      simp only [he, Bool.false_eq_true, if_false]
      exact rText_bad he hE n
    · simp [h0] at he
  | true =>
    obtain ⟨bs, err⟩ := s
    obtain rfl : err = 0 := by simpa using he
    rcases tk_cases' n ⟨bs, 0⟩ with ⟨h0, h1, h2⟩ | ⟨_, k, rfl, h3, h0, h1, h2⟩
    · rw [h1, h2]
      cases hn : decide (n < 0) with
      | true => exact rText_neg hE n hn
      | false =>
        refine rText_many hE n hn ?_
        have hn2 := of_decide_eq_false hn
        have h0 : tkOk n bs 0 = false := h0
        simp only [tkOk, beq_self_eq_true, Bool.true_and, Bool.and_eq_false_iff, decide_eq_false_iff_not] at h0
        show decide ((bs.length : Int) < n) = true
        exact decide_eq_true (by omega)
    · rw [h1, h2]
      exact rText_ok hE k h3
end Go.Proofs.Ytohdljcpaogokaa
