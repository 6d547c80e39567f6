/-
  Two children compared, and a child built of its hash, height and size: whether a child is plain.
-/
import Derived.Test.YtohdljcpaogokaaCk3
import Derived.Laws.StructEq
import Derived.Laws.Tables
namespace Go.Proofs.Ytohdljcpaogokaa
open Go.RowKit Go.SL

def keq (a b : Kid) : Bool := a.name == b.name && (a.dir == b.dir && (a.hash == b.hash && (a.height == b.height && a.size == b.size)))

theorem keq_iff {a b : Kid} : keq a b = true ↔ a = b := by
  obtain ⟨n1, d1, h1, g1, s1⟩ := a
  obtain ⟨n2, d2, h2, g2, s2⟩ := b
  simp [keq]

section
variable {P : Program} {w : World}
theorem run_part1 {t : TypeId} (hA : ∀ w, (isAgg t).run P w = .ok false w) {xs : Array Value} {off : Nat} {v : Value} (h : xs[off]? = some v) : (part t xs off).run P w = .ok v w := by simp [part, hA, h]
theorem run_partA {t : TypeId} (hA : ∀ w, (isAgg t).run P w = .ok true w) {n : Nat} (hn : ∀ w, (Go.sizeOf t).run P w = .ok n w) {xs : Array Value} {off : Nat} : (part t xs off).run P w = .ok (.agg (xs.extract off (off + n))) w := by simp [part, hA, hn]
theorem mk_beq (a b : List UInt8) : ((⟨a.toArray⟩ : ByteArray) == ⟨b.toArray⟩) = (a == b) := by
  rw [beq_toListBytes, ByteArray.toList_eq, ByteArray.toList_eq]
theorem run_eq_string (d : Nat) {t : TypeId} (h : P.underlying t = some .string) (a b : List UInt8) : (Op.equalIn (d + 1) t (.string ⟨a.toArray⟩) (.string ⟨b.toArray⟩)).run P w = .ok (a == b) w := by
  simp [Op.equalIn, run_underlying h, mk_beq]
theorem run_eq_bool (d : Nat) {t : TypeId} (h : P.underlying t = some .bool) (a b : Bool) : (Op.equalIn (d + 1) t (.bool a) (.bool b)).run P w = .ok (a == b) w := by
  simp [Op.equalIn, run_underlying h]
theorem run_eq_int (d : Nat) {t : TypeId} {k : IntKind} (h : P.underlying t = some (.int k)) (a b : Int) : (Op.equalIn (d + 1) t (.int k a) (.int k b)).run P w = .ok (a == b) w := by
  simp [Op.equalIn, run_underlying h]
end

theorem kc_hash {k : Kid} (h : k.good) : (kcells k).toArray.extract 2 (2 + 32) = (bvals k.hash).toArray := by
  have h1 := h.1
  simp only [List.extract_toArray, List.extract_eq_take_drop, kcells, List.drop_succ_cons, List.drop_zero]
  rw [List.take_left' (by rw [bvals_length]; omega)]

theorem run_eqKid {T : TypeId} {w : World} {f0 f1 f2 f3 f4 : Field} (ht : Try.prog.underlying T = some (.struct (Try.prog.fieldsOf T))) (hp : Try.prog.stoodInHeld T = false) (hF : (Try.prog.fieldsOf T).toList = [f0, f1, f2, f3, f4])
    (hn : f0.name ≠ "_" ∧ f1.name ≠ "_" ∧ f2.name ≠ "_" ∧ f3.name ≠ "_" ∧ f4.name ≠ "_") (ho : f0.offset = 0 ∧ f1.offset = 1 ∧ f2.offset = 2 ∧ f3.offset = 34 ∧ f4.offset = 35)
    (hty : f0.type = 9 ∧ f1.type = 4 ∧ f2.type = 56 ∧ f3.type = 5 ∧ f4.type = 57) {a b : Kid} (ha : a.good) (hb : b.good) :
    (Op.equalIn 10000 T (.agg (kcells a).toArray) (.agg (kcells b).toArray)).run Try.prog w = .ok (keq a b) w := by
  obtain ⟨n0, n1, n2, n3, n4⟩ := hn
  obtain ⟨o0, o1, o2, o3, o4⟩ := ho
  obtain ⟨t0, t1, t2, t3, t4⟩ := hty
  have isS : (Try.prog.info? 5).isSome = true := by kernel_rfl
  have isC : Try.prog.cellsOf 5 = 1 := by kernel_rfl
  obtain ⟨ib, hib⟩ := Option.isSome_iff_exists.1 isS
  have x1 : ∀ k w, (part 9 (kcells k).toArray 0).run Try.prog w = .ok (.string ⟨k.name.toArray⟩) w := fun k w => run_part1 (by simp [go_sem]) (kc0 k)
  have x2 : ∀ k w, (part 4 (kcells k).toArray 1).run Try.prog w = .ok (.bool k.dir) w := fun k w => run_part1 (by simp [go_sem]) (kc1 k)
  have x3 : ∀ {k : Kid} w, k.good → (part 56 (kcells k).toArray 2).run Try.prog w = .ok (.agg (bvals k.hash).toArray) w := fun w h => by rw [run_partA Try.isAgg56 Try.sizeOf56, kc_hash h]
  have x4 : ∀ {k : Kid} w, k.good → (part 5 (kcells k).toArray 34).run Try.prog w = .ok (.int .u8 k.height.toNat) w := fun w h => run_part1 (by simp [go_sem]) (kc34 h)
  have x5 : ∀ {k : Kid} w, k.good → (part 57 (kcells k).toArray 35).run Try.prog w = .ok (.int .u32 k.size) w := fun w h => run_part1 (by simp [go_sem]) (kc35 h)
  have eh : ∀ w, (Op.equalIn 9999 56 (.agg (bvals a.hash).toArray) (.agg (bvals b.hash).toArray)).run Try.prog w = .ok (a.hash == b.hash) w := fun w => run_equalA 9997 Try.underlying56 hib isC Try.underlying5 _ _ ha.1 hb.1
  have es : ∀ w, (Op.equalIn 9999 9 (.string ⟨a.name.toArray⟩) (.string ⟨b.name.toArray⟩)).run Try.prog w = .ok (a.name == b.name) w := fun w => run_eq_string 9998 Try.underlying9 _ _
  have ed : ∀ w, (Op.equalIn 9999 4 (.bool a.dir) (.bool b.dir)).run Try.prog w = .ok (a.dir == b.dir) w := fun w => run_eq_bool 9998 Try.underlying4 _ _
  have eg : ∀ w, (Op.equalIn 9999 5 (.int .u8 a.height.toNat) (.int .u8 b.height.toNat)).run Try.prog w = .ok (a.height == b.height) w := fun w => by
    have e : ((a.height.toNat : Int) == (b.height.toNat : Int)) = (a.height == b.height) := by
      rw [Bool.eq_iff_iff]
      simp [← UInt8.toNat_inj]
      omega
    rw [run_eq_int 9998 Try.underlying5, e]
  have ez : ∀ w, (Op.equalIn 9999 57 (.int .u32 a.size) (.int .u32 b.size)).run Try.prog w = .ok (a.size == b.size) w := fun w => by
    have e : ((a.size : Int) == (b.size : Int)) = (a.size == b.size) := by
      rw [Bool.eq_iff_iff]
      simp
      omega
    rw [run_eq_int 9998 Try.underlying57, e]
  rw [run_equalIn_struct w 9999 T _ _ ht hp, hF]
  simp only [Op.eqFields, n0, n1, n2, n3, n4, o0, o1, o2, o3, o4, t0, t1, t2, t3, t4, if_true, Sem.run_bind, x1, x2, x3 _ ha, x3 _ hb, x4 _ ha, x4 _ hb, x5 _ ha, x5 _ hb, es, ed, eh, eg, ez, Result.andThen_ok, Sem.run_ite, Sem.run_pure, not_false_eq_true, ne_eq]
  unfold keq
  cases a.name == b.name <;> cases a.dir == b.dir <;> cases a.hash == b.hash <;> cases a.height == b.height <;> cases a.size == b.size <;> rfl

def five (P : Program) (T : TypeId) : List (Bool × TypeId × Nat) := (P.fieldsOf T).toList.map fun f => (f.name != "_", f.type, f.offset)
theorem kidT : five Try.prog 59 = [(true, 9, 0), (true, 4, 1), (true, 56, 2), (true, 5, 34), (true, 57, 35)] := by kernel_rfl

theorem list5 {α : Type} {l : List α} (h : l.length = 5) : ∃ a b c d e, l = [a, b, c, d, e] := by
  match l, h with
  | [a, b, c, d, e], _ => exact ⟨a, b, c, d, e, rfl⟩
theorem list32 {α : Type} {l : List α} (h : l.length = 32) : ∃ x0 x1 x2 x3 x4 x5 x6 x7 x8 x9 x10 x11 x12 x13 x14 x15 x16 x17 x18 x19 x20 x21 x22 x23 x24 x25 x26 x27 x28 x29 x30 x31, l = [x0, x1, x2, x3, x4, x5, x6, x7, x8, x9, x10, x11, x12, x13, x14, x15, x16, x17, x18, x19, x20, x21, x22, x23, x24, x25, x26, x27, x28, x29, x30, x31] := by
  match l, h with
  | [x0, x1, x2, x3, x4, x5, x6, x7, x8, x9, x10, x11, x12, x13, x14, x15, x16, x17, x18, x19, x20, x21, x22, x23, x24, x25, x26, x27, x28, x29, x30, x31], _ => exact ⟨x0, x1, x2, x3, x4, x5, x6, x7, x8, x9, x10, x11, x12, x13, x14, x15, x16, x17, x18, x19, x20, x21, x22, x23, x24, x25, x26, x27, x28, x29, x30, x31, rfl⟩

theorem run_eqKid' {T : TypeId} {w : World} (ht : Try.prog.underlying T = some (.struct (Try.prog.fieldsOf T))) (hp : Try.prog.stoodInHeld T = false) (h5 : five Try.prog T = [(true, 9, 0), (true, 4, 1), (true, 56, 2), (true, 5, 34), (true, 57, 35)]) {a b : Kid} (ha : a.good) (hb : b.good) :
    (Op.equalIn 10000 T (.agg (kcells a).toArray) (.agg (kcells b).toArray)).run Try.prog w = .ok (keq a b) w := by
  unfold five at h5
  obtain ⟨f0, f1, f2, f3, f4, hF⟩ := list5 (l := (Try.prog.fieldsOf T).toList) (by have := congrArg List.length h5; simpa using this)
  rw [hF] at h5
  simp only [List.map_cons, List.map_nil, List.cons.injEq, Prod.mk.injEq, bne_iff_ne, and_true] at h5
  obtain ⟨⟨n0, t0, o0⟩, ⟨n1, t1, o1⟩, ⟨n2, t2, o2⟩, ⟨n3, t3, o3⟩, ⟨n4, t4, o4⟩⟩ := h5
  exact run_eqKid ht hp hF ⟨n0, n1, n2, n3, n4⟩ ⟨o0, o1, o2, o3, o4⟩ ⟨t0, t1, t2, t3, t4⟩ ha hb
theorem eqKid (w : World) {a b : Kid} (ha : a.good) (hb : b.good) : (Op.equalIn 10000 59 (.agg (kcells a).toArray) (.agg (kcells b).toArray)).run Try.prog w = .ok (keq a b) w :=
  run_eqKid' (by kernel_rfl) (by kernel_rfl) kidT ha hb

/-- a child built of its hash, height and size -/
theorem built_kid {hs : List UInt8} (h32 : hs.length = 32) (g s : Int) : Try.prog.built 59 [(2, .agg (bvals hs).toArray), (3, .int .u8 g), (4, .int .u32 s)] = some (.string ⟨#[]⟩ :: .bool false :: (bvals hs ++ [.int .u8 g, .int .u32 s])).toArray := by
  obtain ⟨x0, x1, x2, x3, x4, x5, x6, x7, x8, x9, x10, x11, x12, x13, x14, x15, x16, x17, x18, x19, x20, x21, x22, x23, x24, x25, x26, x27, x28, x29, x30, x31, rfl⟩ := list32 h32
  kernel_rfl
theorem run_built_kid {k : Kid} (h : k.good) (w : World) : (Instr.build 59 #[(2, .agg (bvals k.hash).toArray), (3, .int .u8 k.height.toNat), (4, .int .u32 k.size)]).run Try.prog w = .ok (.agg (kcells ⟨[], false, k.hash, k.height, k.size⟩).toArray) w :=
  run_build w 59 _ _ (built_kid h.1 _ _)

theorem plain_eq {k : Kid} : keq k ⟨[], false, k.hash, k.height, k.size⟩ = plainK k := by
  obtain ⟨n, d, h, g, s⟩ := k
  rw [Bool.eq_iff_iff]
  simp [keq, plainK]

theorem wpl_built {P : Program} {ops : Array Oper} {rest : List Oper} {o : Oper} {a : Act} {Q : Exit → Act → World → Prop} {w : World} {t : TypeId} {parts : Array (Nat × Operand)} {ps : Array (Nat × Value)} {v : Value} (ho : o.op = .build t parts) (hw : Region.wanted o (yielded ops a.tmps) = true)
    (hp : (parts.map fun (i, x) => (i, a.eval x)) = ps) (hr : ∀ w, (Instr.build t ps).run P w = .ok v w) (h : wpList P ops Q rest (a.put o.dst v) w) : wpList P ops Q (o :: rest) a w := by
  refine wpl_run hw (w' := w) (v := v) ?_ h
  simp only [execOp, ho, hp, Sem.run_bind, hr, Result.andThen_ok, Sem.run_pure]

set_option maxRecDepth 100000 in
attribute [-go_sem] Go.run_equalIn_agg Instr.build in
theorem plain_any {k : Kid} (h : k.good) {l : List HProp} {w : World} (hE : Ent l w) :
    Calls Try.prog 101 #[.agg (kcells k).toArray] w (Ret fun v w' => v = .bool (plainK k) ∧ Ent l w') := by
  have H36 := SL.hid (kcells_len h)
  have K34 := SL.hid (kc34 h)
  have K35 := SL.hid (kc35 h)
  have K2 := SL.hid (kc2 h)
  have H32 := SL.hid (show (bvals k.hash).length = 32 by rw [bvals_length, h.1])
  have hb := run_built_kid h
  have he := fun w => eqKid w h (b := ⟨[], false, k.hash, k.height, k.size⟩) h
  rw [plain_eq] at he
  generalize hxs : (kcells ⟨[], false, k.hash, k.height, k.size⟩).toArray = ys at *
  generalize hb0 : plainK k = b0 at *
  generalize hks : kcells k = xs at *
  generalize k.height.toNat = g at *
  generalize k.size = s at *
  clear hxs hb0 hks h
  go_enter Try.func101, Try.ntmps101
  go_wp2_with (first
    | ((with_reducible (show Go.wpList _ _ _ (Go.Oper.mk _ (.box _ _) _ _ _ _ :: _) _ _)); refine wpl_box hE rfl rfl rfl ?_; clear hE; intro b1 w hE; simp only [Act.eval, Act.put, List.setIfInBounds_toArray, List.set_cons_zero, List.set_cons_succ, getD_lit, List.getD_cons_succ, List.getD_cons_zero, Value.cells] at hE)
    | ((with_reducible (show Go.wpList _ _ _ (Go.Oper.mk _ (.load _ (.tmp 1)) _ _ _ _ :: _) _ _)); refine wpl_loadW hE 0 rfl rfl rfl rfl Try.isAgg59 Try.sizeOf59 H36.out ?_)
    | ((with_reducible (show Go.wpList _ _ _ (Go.Oper.mk _ (.load _ (.tmp 4)) _ _ _ _ :: _) _ _)); refine wpl_loadA hE 0 rfl rfl rfl rfl Try.isAgg56 Try.sizeOf56 _ H32.out K2.out ?_)
    | ((with_reducible (show Go.wpList _ _ _ (Go.Oper.mk _ (.load _ (.tmp 6)) _ _ _ _ :: _) _ _)); refine wpl_load1 hE 0 rfl rfl rfl rfl (by simp [go_sem]) K34.out ?_)
    | ((with_reducible (show Go.wpList _ _ _ (Go.Oper.mk _ (.load _ (.tmp 8)) _ _ _ _ :: _) _ _)); refine wpl_load1 hE 0 rfl rfl rfl rfl (by simp [go_sem]) K35.out ?_)
    | ((with_reducible (show Go.wpList _ _ _ (Go.Oper.mk _ (.build _ _) _ _ _ _ :: _) _ _)); refine wpl_built rfl rfl rfl hb ?_))
  go_ret
  exact ⟨_, rfl, rfl, hE.tail⟩
end Go.Proofs.Ytohdljcpaogokaa
