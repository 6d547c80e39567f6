/-
  Proved here, with no condition but the lengths that are named: what the packer's writers of numbers, hashes, texts and names do to the bytes and the error, at every input.
-/
import Derived.Test.YtohdljcpaogokaaPk3
namespace Go.Proofs.Ytohdljcpaogokaa
open Go.RowKit Go.SL

def wideB (n : Int) : Bool := n == 1 || n == 2 || n == 4 || n == 8

set_option maxHeartbeats 400000 in
theorem wide_any (n : Int) (w : World) : Calls Try.prog 75 #[.int .i64 n] w fun e w' => e = .returned (.bool (wideB n)) ∧ w = w' := by
  go_enter Try.func75, Try.ntmps75
  go_wp2
  all_goals go_ret
  all_goals refine ⟨?_, rfl⟩
  all_goals simp [wideB, *]

theorem wide_is (n : Int) (b : Bool) (h : wideB n = b) (w : World) : Calls Try.prog 75 #[.int .i64 n] w fun e w' => e = .returned (.bool b) ∧ w = w' := h ▸ wide_any n w

def numOk (width : Int) (n : Nat) : Bool := wideB width && (width == 8 || n / 256 ^ width.toNat == 0)

theorem numOk1 (n : Nat) : ((n : Int) / 256 == 0) = numOk 1 n := by
  rw [Bool.eq_iff_iff]; simp [numOk, wideB]; omega
theorem numOk2 (n : Nat) : ((n : Int) / 65536 == 0) = numOk 2 n := by
  rw [Bool.eq_iff_iff]; simp [numOk, wideB]; omega
theorem numOk4 (n : Nat) : ((n : Int) / 4294967296 == 0) = numOk 4 n := by
  rw [Bool.eq_iff_iff]; simp [numOk, wideB]; omega

set_option maxRecDepth 100000 in
set_option maxHeartbeats 400000 in
theorem Put_bad (p n : Nat) (width : Int) (hw : wideB width = false) {l : List HProp} {w : World} {bs : List UInt8} {err : Int} (hE : Ent (packer p bs err :: l) w) (hb : bs.length ≤ 1099511627776) :
    Calls Try.prog 42 #[.pointer (some ⟨p, 0, none⟩), .int .i64 width, .int .u64 n] w (Ret fun v w' => v = .pointer (some ⟨p, 0, none⟩) ∧ Ent (packer p bs (orLimit err) :: l) w') := by
  go_enter Try.func42, Try.ntmps42
  go_wp2_with (first | go_skip | ((with_reducible (show Go.wpList _ _ _ (Go.Oper.mk _ (.load _ _) _ _ _ _ :: _) _ _)); first | (refine wpl_load1 hE 0 rfl rfl rfl rfl (by simp [go_sem]) rfl ?_) | (refine wpl_load1 hE 1 rfl rfl rfl rfl (by simp [go_sem]) rfl ?_) | (refine wpl_load1 hE 2 rfl rfl rfl rfl (by simp [go_sem]) rfl ?_) | (refine wpl_load1 hE 3 rfl rfl rfl rfl (by simp [go_sem]) rfl ?_) | (refine wpl_load1 hE 4 rfl rfl rfl rfl (by simp [go_sem]) rfl ?_) | (refine wpl_load1 hE 5 rfl rfl rfl rfl (by simp [go_sem]) rfl ?_)) | ((with_reducible (show Go.wpList _ _ _ (Go.Oper.mk _ (.box _ _) _ _ _ _ :: _) _ _)); refine wpl_box hE rfl rfl rfl ?_; clear hE; intro b w hE; simp only [Act.eval, Act.put, List.setIfInBounds_toArray, List.set_cons_zero, List.set_cons_succ, getD_lit, List.getD_cons_succ, List.getD_cons_zero, Value.cells] at hE) | (go_at_call 75; refine (wide_is _ false hw _).mono ?_; rintro e w2 ⟨rfl, rfl⟩))
  refine (puts_any (ys := []) false Try.call76 (by simp) (hE.front 2 rfl) (by simpa using hb)).mono ?_
  rintro e w2 ⟨v, rfl, rfl, hE2⟩
  go_wp2
  go_ret
  exact ⟨_, rfl, rfl, hE2.erase 1 |>.erase 1⟩

set_option maxRecDepth 100000 in
set_option maxHeartbeats 400000 in
theorem Put_1 (p n : Nat) {l : List HProp} {w : World} {bs : List UInt8} {err : Int} (hE : Ent (packer p bs err :: l) w) (hb : bs.length + 8 ≤ 1099511627776) :
    Calls Try.prog 42 #[.pointer (some ⟨p, 0, none⟩), .int .i64 1, .int .u64 n] w (Ret fun v w' => v = .pointer (some ⟨p, 0, none⟩) ∧ Ent (packer p (pbs (numOk 1 n) bs (be 1 n)) (perr (numOk 1 n) err) :: l) w') := by
  rw [← numOk1]
  go_enter Try.func42, Try.ntmps42
  go_wp2_with (first | go_skip | ((with_reducible (show Go.wpList _ _ _ (Go.Oper.mk _ (.load _ _) _ _ _ _ :: _) _ _)); first | (refine wpl_load1 hE 0 rfl rfl rfl rfl (by simp [go_sem]) rfl ?_) | (refine wpl_load1 hE 1 rfl rfl rfl rfl (by simp [go_sem]) rfl ?_) | (refine wpl_load1 hE 2 rfl rfl rfl rfl (by simp [go_sem]) rfl ?_) | (refine wpl_load1 hE 3 rfl rfl rfl rfl (by simp [go_sem]) rfl ?_) | (refine wpl_load1 hE 4 rfl rfl rfl rfl (by simp [go_sem]) rfl ?_) | (refine wpl_load1 hE 5 rfl rfl rfl rfl (by simp [go_sem]) rfl ?_)) | ((with_reducible (show Go.wpList _ _ _ (Go.Oper.mk _ (.box _ _) _ _ _ _ :: _) _ _)); refine wpl_box hE rfl rfl rfl ?_; clear hE; intro b w hE; simp only [Act.eval, Act.put, List.setIfInBounds_toArray, List.set_cons_zero, List.set_cons_succ, getD_lit, List.getD_cons_succ, List.getD_cons_zero, Value.cells] at hE) | (go_at_call 75; refine (wide_is _ true rfl _).mono ?_; rintro e w2 ⟨rfl, rfl⟩))
  refine (puts_any (ys := be 1 n) _ Try.call76 (fun _ => Put1_any _ _ 1 n (by omega) _ 1 0 rfl rfl) (hE.front 2 rfl) (by simp [be]; omega)).mono ?_
  rintro e w2 ⟨v, rfl, rfl, hE2⟩
  go_wp2
  go_ret
  exact ⟨_, rfl, rfl, hE2.erase 1 |>.erase 1⟩

set_option maxRecDepth 100000 in
set_option maxHeartbeats 400000 in
theorem Put_2 (p n : Nat) {l : List HProp} {w : World} {bs : List UInt8} {err : Int} (hE : Ent (packer p bs err :: l) w) (hb : bs.length + 8 ≤ 1099511627776) :
    Calls Try.prog 42 #[.pointer (some ⟨p, 0, none⟩), .int .i64 2, .int .u64 n] w (Ret fun v w' => v = .pointer (some ⟨p, 0, none⟩) ∧ Ent (packer p (pbs (numOk 2 n) bs (be 2 n)) (perr (numOk 2 n) err) :: l) w') := by
  rw [← numOk2]
  go_enter Try.func42, Try.ntmps42
  go_wp2_with (first | go_skip | ((with_reducible (show Go.wpList _ _ _ (Go.Oper.mk _ (.load _ _) _ _ _ _ :: _) _ _)); first | (refine wpl_load1 hE 0 rfl rfl rfl rfl (by simp [go_sem]) rfl ?_) | (refine wpl_load1 hE 1 rfl rfl rfl rfl (by simp [go_sem]) rfl ?_) | (refine wpl_load1 hE 2 rfl rfl rfl rfl (by simp [go_sem]) rfl ?_) | (refine wpl_load1 hE 3 rfl rfl rfl rfl (by simp [go_sem]) rfl ?_) | (refine wpl_load1 hE 4 rfl rfl rfl rfl (by simp [go_sem]) rfl ?_) | (refine wpl_load1 hE 5 rfl rfl rfl rfl (by simp [go_sem]) rfl ?_)) | ((with_reducible (show Go.wpList _ _ _ (Go.Oper.mk _ (.box _ _) _ _ _ _ :: _) _ _)); refine wpl_box hE rfl rfl rfl ?_; clear hE; intro b w hE; simp only [Act.eval, Act.put, List.setIfInBounds_toArray, List.set_cons_zero, List.set_cons_succ, getD_lit, List.getD_cons_succ, List.getD_cons_zero, Value.cells] at hE) | (go_at_call 75; refine (wide_is _ true rfl _).mono ?_; rintro e w2 ⟨rfl, rfl⟩))
  refine (puts_any (ys := be 2 n) _ Try.call76 (fun _ => Put1_any _ _ 2 n (by omega) _ 1 0 rfl rfl) (hE.front 2 rfl) (by simp [be]; omega)).mono ?_
  rintro e w2 ⟨v, rfl, rfl, hE2⟩
  go_wp2
  go_ret
  exact ⟨_, rfl, rfl, hE2.erase 1 |>.erase 1⟩

set_option maxRecDepth 100000 in
set_option maxHeartbeats 400000 in
theorem Put_4 (p n : Nat) {l : List HProp} {w : World} {bs : List UInt8} {err : Int} (hE : Ent (packer p bs err :: l) w) (hb : bs.length + 8 ≤ 1099511627776) :
    Calls Try.prog 42 #[.pointer (some ⟨p, 0, none⟩), .int .i64 4, .int .u64 n] w (Ret fun v w' => v = .pointer (some ⟨p, 0, none⟩) ∧ Ent (packer p (pbs (numOk 4 n) bs (be 4 n)) (perr (numOk 4 n) err) :: l) w') := by
  rw [← numOk4]
  go_enter Try.func42, Try.ntmps42
  go_wp2_with (first | go_skip | ((with_reducible (show Go.wpList _ _ _ (Go.Oper.mk _ (.load _ _) _ _ _ _ :: _) _ _)); first | (refine wpl_load1 hE 0 rfl rfl rfl rfl (by simp [go_sem]) rfl ?_) | (refine wpl_load1 hE 1 rfl rfl rfl rfl (by simp [go_sem]) rfl ?_) | (refine wpl_load1 hE 2 rfl rfl rfl rfl (by simp [go_sem]) rfl ?_) | (refine wpl_load1 hE 3 rfl rfl rfl rfl (by simp [go_sem]) rfl ?_) | (refine wpl_load1 hE 4 rfl rfl rfl rfl (by simp [go_sem]) rfl ?_) | (refine wpl_load1 hE 5 rfl rfl rfl rfl (by simp [go_sem]) rfl ?_)) | ((with_reducible (show Go.wpList _ _ _ (Go.Oper.mk _ (.box _ _) _ _ _ _ :: _) _ _)); refine wpl_box hE rfl rfl rfl ?_; clear hE; intro b w hE; simp only [Act.eval, Act.put, List.setIfInBounds_toArray, List.set_cons_zero, List.set_cons_succ, getD_lit, List.getD_cons_succ, List.getD_cons_zero, Value.cells] at hE) | (go_at_call 75; refine (wide_is _ true rfl _).mono ?_; rintro e w2 ⟨rfl, rfl⟩))
  refine (puts_any (ys := be 4 n) _ Try.call76 (fun _ => Put1_any _ _ 4 n (by omega) _ 1 0 rfl rfl) (hE.front 2 rfl) (by simp [be]; omega)).mono ?_
  rintro e w2 ⟨v, rfl, rfl, hE2⟩
  go_wp2
  go_ret
  exact ⟨_, rfl, rfl, hE2.erase 1 |>.erase 1⟩

set_option maxRecDepth 100000 in
set_option maxHeartbeats 400000 in
theorem Put_8 (p n : Nat) {l : List HProp} {w : World} {bs : List UInt8} {err : Int} (hE : Ent (packer p bs err :: l) w) (hb : bs.length + 8 ≤ 1099511627776) :
    Calls Try.prog 42 #[.pointer (some ⟨p, 0, none⟩), .int .i64 8, .int .u64 n] w (Ret fun v w' => v = .pointer (some ⟨p, 0, none⟩) ∧ Ent (packer p (pbs (numOk 8 n) bs (be 8 n)) (perr (numOk 8 n) err) :: l) w') := by
  rw [show numOk 8 n = true from rfl]
  go_enter Try.func42, Try.ntmps42
  go_wp2_with (first | go_skip | ((with_reducible (show Go.wpList _ _ _ (Go.Oper.mk _ (.load _ _) _ _ _ _ :: _) _ _)); first | (refine wpl_load1 hE 0 rfl rfl rfl rfl (by simp [go_sem]) rfl ?_) | (refine wpl_load1 hE 1 rfl rfl rfl rfl (by simp [go_sem]) rfl ?_) | (refine wpl_load1 hE 2 rfl rfl rfl rfl (by simp [go_sem]) rfl ?_) | (refine wpl_load1 hE 3 rfl rfl rfl rfl (by simp [go_sem]) rfl ?_) | (refine wpl_load1 hE 4 rfl rfl rfl rfl (by simp [go_sem]) rfl ?_) | (refine wpl_load1 hE 5 rfl rfl rfl rfl (by simp [go_sem]) rfl ?_)) | ((with_reducible (show Go.wpList _ _ _ (Go.Oper.mk _ (.box _ _) _ _ _ _ :: _) _ _)); refine wpl_box hE rfl rfl rfl ?_; clear hE; intro b w hE; simp only [Act.eval, Act.put, List.setIfInBounds_toArray, List.set_cons_zero, List.set_cons_succ, getD_lit, List.getD_cons_succ, List.getD_cons_zero, Value.cells] at hE) | (go_at_call 75; refine (wide_is _ true rfl _).mono ?_; rintro e w2 ⟨rfl, rfl⟩))
  refine (puts_any (ys := be 8 n) _ Try.call76 (fun _ => Put1_any _ _ 8 n (by omega) _ 1 0 rfl rfl) (hE.front 2 rfl) (by simp [be]; omega)).mono ?_
  rintro e w2 ⟨v, rfl, rfl, hE2⟩
  go_wp2
  go_ret
  exact ⟨_, rfl, rfl, hE2.erase 1 |>.erase 1⟩

theorem be_length (w n : Nat) : (be w n).length = w := by
  induction w with
  | zero => rfl
  | succ w ih => simp [be, ih]

/-- what a number adds to a packer -/
theorem Put_any (p n : Nat) (width : Int) {l : List HProp} {w : World} {bs : List UInt8} {err : Int} (hE : Ent (packer p bs err :: l) w) (hb : bs.length + 8 ≤ 1099511627776) :
    Calls Try.prog 42 #[.pointer (some ⟨p, 0, none⟩), .int .i64 width, .int .u64 n] w (Ret fun v w' => v = .pointer (some ⟨p, 0, none⟩) ∧ Ent (packer p (pbs (numOk width n) bs (be width.toNat n)) (perr (numOk width n) err) :: l) w') := by
  cases hw : wideB width with
  | false =>
    have h0 : numOk width n = false := by simp [numOk, hw]
    rw [h0]
    exact Put_bad p n width hw (bs := bs) hE (by omega)
  | true =>
    simp only [wideB, Bool.or_eq_true, beq_iff_eq] at hw
    rcases hw with ((rfl | rfl) | rfl) | rfl
    · exact Put_1 p n hE hb
    · exact Put_2 p n hE hb
    · exact Put_4 p n hE hb
    · exact Put_8 p n hE hb

theorem Hash1_any (bh : Nat) (hs : List UInt8) (h32 : hs.length = 32) (l : List HProp) (i : Nat) (hi : l[i]? = some (pt bh (.cells (bvals hs).toArray 56))) : Makes 103 #[.pointer (some ⟨bh, 0, none⟩)] l hs := by
  intro m w hE
  go_enter Try.func103, Try.ntmps103
  go_wp2
  go_ret
  refine ⟨_, rfl, hE, ?_⟩
  rw [h32]
  exact reads_pt hE.drop i hi (fun j u hu => by simpa using hu)

theorem Hash_any (p : Nat) (hs : List UInt8) (h32 : hs.length = 32) {l : List HProp} {w : World} {bs : List UInt8} {err : Int} (hE : Ent (packer p bs err :: l) w) (hb : bs.length + 32 ≤ 1099511627776) :
    Calls Try.prog 68 #[.pointer (some ⟨p, 0, none⟩), .agg (bvals hs).toArray] w (Ret fun v w' => v = .pointer (some ⟨p, 0, none⟩) ∧ Ent (packer p (bs ++ hs) err :: l) w') := by
  go_enter Try.func68, Try.ntmps68
  go_wp2_with (first | ((with_reducible (show Go.wpList _ _ _ (Go.Oper.mk _ (.box _ _) _ _ _ _ :: _) _ _)); refine wpl_box hE rfl rfl rfl ?_; clear hE; intro b w hE; simp only [Act.eval, Act.put, List.setIfInBounds_toArray, List.set_cons_zero, List.set_cons_succ, getD_lit, List.getD_cons_succ, List.getD_cons_zero, Value.cells] at hE))
  refine (puts_any (ys := hs) true Try.call103 (fun _ => Hash1_any _ hs h32 _ 0 rfl) (hE.front 1 rfl) (by omega)).mono ?_
  rintro e w2 ⟨v, rfl, rfl, hE2⟩
  go_wp2
  go_ret
  exact ⟨_, rfl, rfl, hE2.erase 1⟩

theorem byteCells_mk (ys : List UInt8) : byteCells ⟨ys.toArray⟩ = bvals ys := by simp only [byteCells, bvals, List.toList_toArray]; rfl
theorem wpl_strB {ops : Array Oper} {rest : List Oper} {o : Oper} {a : Act} {Q : Exit → Act → World → Prop} {w : World} {l : List HProp} (hE : Ent l w) {x : Operand} (ho : o.op = .convert 9 42 x) (hw : Region.wanted o (yielded ops a.tmps) = true)
    {ys : List UInt8} (hx : a.eval x = .string ⟨ys.toArray⟩) (h : ∀ b c w', Ent (view (.slice (some ⟨b, 0, none⟩) ys.length c) ys.length (bvals ys) :: l) w' → wpList Try.prog ops Q rest (a.put o.dst (.slice (some ⟨b, 0, none⟩) ys.length c)) w') : wpList Try.prog ops Q (o :: rest) a w := by
  obtain ⟨b, c, w', hr, hE'⟩ := hE.strBytes (P := Try.prog) Try.underlying9 Try.underlying42 Try.underlying5 ⟨ys.toArray⟩
  rw [byteCells_mk] at hE'
  have e : (ByteArray.mk ys.toArray).size = ys.length := by simp [ByteArray.size]
  rw [e] at hr hE'
  refine wpl_run hw (w' := w') (v := .slice (some ⟨b, 0, none⟩) ys.length c) ?_ (h b c w' hE')
  simp [execOp, ho, hx, hr]

theorem wpl_appendS {ops : Array Oper} {rest : List Oper} {o : Oper} {a : Act} {Q : Exit → Act → World → Prop} {w : World} {l : List HProp} (hE : Ent l w) (k : Nat) {ao : Option Addr} {c : Nat} {bs : List UInt8}
    (hk : l[k]? = some (rowB ao c bs)) {s y : Operand} (ho : o.op = .call { callee := .builtin .append, args := #[s, y], argTypes := #[42, 9] }) (hw : Region.wanted o (yielded ops a.tmps) = true)
    (hs : a.eval s = .slice ao bs.length c) {ys : List UInt8} (hy : a.eval y = .string ⟨ys.toArray⟩) (hb : bs.length + ys.length ≤ 1099511627776)
    (h : ∀ ao' c' w', Ent (l.set k (rowB ao' c' (bs ++ ys))) w' → wpList Try.prog ops Q rest (a.put o.dst (.slice ao' (bs ++ ys).length c')) w') : wpList Try.prog ops Q (o :: rest) a w := by
  obtain ⟨i, hi, hz0, hz1, hz2⟩ := info_parts infoB
  have e : (ByteArray.mk ys.toArray).size = ys.length := by simp [ByteArray.size]
  obtain ⟨ao', c', w', hr, hE'⟩ := hE.appendS (P := Try.prog) o.type k hk Try.underlying42 Try.underlying9 hi hz0 hz1 hz2 ⟨ys.toArray⟩ (by rw [e]; omega)
  rw [byteCells_mk, e, ← bvals_append, ← List.length_append] at hE'
  rw [e, ← List.length_append] at hr
  refine wpl_run hw (w' := w') (v := .slice ao' (bs ++ ys).length c') ?_ (h ao' c' w' hE')
  simp only [execOp, ho, resolve, invoke, builtin, Sem.run_bind, Sem.run_pure, Result.andThen_ok, List.map_toArray, List.map_cons, List.map_nil, hs, hy, hr]

theorem Text1_any (bt : Nat) (ys : List UInt8) (l : List HProp) (i : Nat) (hi : l[i]? = some (pt bt (.cells #[.string ⟨ys.toArray⟩] 9))) : Makes 88 #[.pointer (some ⟨bt, 0, none⟩)] l ys := by
  intro m w hE
  have hc : w.cell? ⟨bt, 0, none⟩ = some (.string ⟨ys.toArray⟩) := by simpa using hE.drop.cell i hi 0
  go_enter Try.func88, Try.ntmps88
  go_wp2_with (first | (refine wpl_strB hE rfl rfl rfl ?_; intro b c w2 hE2))
  go_ret
  exact ⟨_, rfl, hE2.tail, hE2.views 0 rfl⟩

theorem Text_any (p : Nat) (ys : List UInt8) {l : List HProp} {w : World} {bs : List UInt8} {err : Int} (hE : Ent (packer p bs err :: l) w) (hb : bs.length + ys.length ≤ 1099511627776) :
    Calls Try.prog 48 #[.pointer (some ⟨p, 0, none⟩), .string ⟨ys.toArray⟩] w (Ret fun v w' => v = .pointer (some ⟨p, 0, none⟩) ∧ Ent (packer p (bs ++ ys) err :: l) w') := by
  go_enter Try.func48, Try.ntmps48
  go_wp2_with (first | ((with_reducible (show Go.wpList _ _ _ (Go.Oper.mk _ (.box _ _) _ _ _ _ :: _) _ _)); refine wpl_box hE rfl rfl rfl ?_; clear hE; intro b w hE; simp only [Act.eval, Act.put, List.setIfInBounds_toArray, List.set_cons_zero, List.set_cons_succ, getD_lit, List.getD_cons_succ, List.getD_cons_zero, Value.cells] at hE))
  refine (puts_any (ys := ys) true Try.call88 (fun _ => Text1_any _ ys _ 0 rfl) (hE.front 1 rfl) (by omega)).mono ?_
  rintro e w2 ⟨v, rfl, rfl, hE2⟩
  go_wp2
  go_ret
  exact ⟨_, rfl, rfl, hE2.erase 1⟩

theorem Name1_any (bt : Nat) (ys : List UInt8) (hl : ys.length < 256) (l : List HProp) (i : Nat) (hi : l[i]? = some (pt bt (.cells #[.string ⟨ys.toArray⟩] 9))) : Makes 102 #[.pointer (some ⟨bt, 0, none⟩)] l (UInt8.ofNat ys.length :: ys) := by
  intro m w hE
  have hc : w.cell? ⟨bt, 0, none⟩ = some (.string ⟨ys.toArray⟩) := by simpa using hE.drop.cell i hi 0
  have hz := hE.drop.size i hi
  have hby : Value.int .u8 (ys.length : Int) = bval (UInt8.ofNat ys.length) := by
    simp only [bval, UInt8.toNat_ofNat', Nat.reducePow]
    rw [Nat.mod_eq_of_lt hl]
  have Hby := SL.hid hby
  clear hby
  go_enter Try.func102, Try.ntmps102
  go_wp2_with (refine wpl_appendS (Ent.rowB1 hE _ _ Hby.out) 0 rfl rfl rfl rfl (ys := ys) rfl (by simp; omega) ?_; intro ao c w2 hE2)
  go_ret
  exact ⟨_, rfl, hE2.tail, reads_row hE2 0 rfl⟩

set_option maxRecDepth 100000 in
theorem Name_ok (p : Nat) (ys : List UInt8) (hl : ys.length < 256) {l : List HProp} {w : World} {bs : List UInt8} {err : Int} (hE : Ent (packer p bs err :: l) w) (hb : bs.length + 256 ≤ 1099511627776) :
    Calls Try.prog 67 #[.pointer (some ⟨p, 0, none⟩), .string ⟨ys.toArray⟩] w (Ret fun v w' => v = .pointer (some ⟨p, 0, none⟩) ∧ Ent (packer p (bs ++ UInt8.ofNat ys.length :: ys) err :: l) w') := by
  have hl' : decide ((ys.length : Int) < 256) = true := by simp; omega
  go_enter Try.func67, Try.ntmps67
  go_wp2_with (first | ((with_reducible (show Go.wpList _ _ _ (Go.Oper.mk _ (.box _ _) _ _ _ _ :: _) _ _)); refine wpl_box hE rfl rfl rfl ?_; clear hE; intro b w hE; simp only [Act.eval, Act.put, List.setIfInBounds_toArray, List.set_cons_zero, List.set_cons_succ, getD_lit, List.getD_cons_succ, List.getD_cons_zero, Value.cells] at hE) | ((with_reducible (show Go.wpList _ _ _ (Go.Oper.mk _ (.load _ _) _ _ _ _ :: _) _ _)); first | (refine wpl_load1 hE 0 rfl rfl rfl rfl (by simp [go_sem]) rfl ?_) | (refine wpl_load1 hE 1 rfl rfl rfl rfl (by simp [go_sem]) rfl ?_) | (refine wpl_load1 hE 2 rfl rfl rfl rfl (by simp [go_sem]) rfl ?_) | (refine wpl_load1 hE 3 rfl rfl rfl rfl (by simp [go_sem]) rfl ?_) | (refine wpl_load1 hE 4 rfl rfl rfl rfl (by simp [go_sem]) rfl ?_) | (refine wpl_load1 hE 5 rfl rfl rfl rfl (by simp [go_sem]) rfl ?_)))
  go_goals
  refine (puts_any (ys := UInt8.ofNat ys.length :: ys) true Try.call102 (fun _ => Name1_any _ ys hl _ 0 rfl) (hE.front 1 rfl) (by simp; omega)).mono ?_
  rintro e w2 ⟨v, rfl, rfl, hE2⟩
  go_wp2
  go_ret
  exact ⟨_, rfl, rfl, hE2.erase 1⟩

set_option maxRecDepth 100000 in
theorem Name_bad (p : Nat) (ys : List UInt8) (hl : 256 ≤ ys.length) {l : List HProp} {w : World} {bs : List UInt8} {err : Int} (hE : Ent (packer p bs err :: l) w) (hb : bs.length ≤ 1099511627776) :
    Calls Try.prog 67 #[.pointer (some ⟨p, 0, none⟩), .string ⟨ys.toArray⟩] w (Ret fun v w' => v = .pointer (some ⟨p, 0, none⟩) ∧ Ent (packer p bs (orLimit err) :: l) w') := by
  have hl' : decide ((ys.length : Int) < 256) = false := by simp; omega
  go_enter Try.func67, Try.ntmps67
  go_wp2_with (first | ((with_reducible (show Go.wpList _ _ _ (Go.Oper.mk _ (.box _ _) _ _ _ _ :: _) _ _)); refine wpl_box hE rfl rfl rfl ?_; clear hE; intro b w hE; simp only [Act.eval, Act.put, List.setIfInBounds_toArray, List.set_cons_zero, List.set_cons_succ, getD_lit, List.getD_cons_succ, List.getD_cons_zero, Value.cells] at hE) | ((with_reducible (show Go.wpList _ _ _ (Go.Oper.mk _ (.load _ _) _ _ _ _ :: _) _ _)); first | (refine wpl_load1 hE 0 rfl rfl rfl rfl (by simp [go_sem]) rfl ?_) | (refine wpl_load1 hE 1 rfl rfl rfl rfl (by simp [go_sem]) rfl ?_) | (refine wpl_load1 hE 2 rfl rfl rfl rfl (by simp [go_sem]) rfl ?_) | (refine wpl_load1 hE 3 rfl rfl rfl rfl (by simp [go_sem]) rfl ?_) | (refine wpl_load1 hE 4 rfl rfl rfl rfl (by simp [go_sem]) rfl ?_) | (refine wpl_load1 hE 5 rfl rfl rfl rfl (by simp [go_sem]) rfl ?_)))
  refine (puts_any (ys := []) false Try.call102 (by simp) (hE.front 1 rfl) (by simpa using hb)).mono ?_
  rintro e w2 ⟨v, rfl, rfl, hE2⟩
  go_wp2
  go_ret
  exact ⟨_, rfl, rfl, hE2.erase 1⟩
