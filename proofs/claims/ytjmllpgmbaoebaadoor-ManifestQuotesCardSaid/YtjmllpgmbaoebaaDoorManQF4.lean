/-
  A strings.Builder over separation lists: written, read, written on (without the packer's texts).
-/
import Derived.Test.YtjmllpgmbaoebaaDoorManQF3
import Derived.Shelf.RegionOpenPlain
import Derived.Laws.Externs
import Derived.Lib.UnsafeStr
import Derived.Lib.Builder
import Derived.Shelf.Strings.Prefix
import Derived.Shelf.Strings.Search2
namespace Go.Proofs.YtjmllpgmbaoebaaDoor
open Go.RowKit Go.SL

/-- a builder that holds these bytes -/
def bldZ (b : Nat) : Type := { z : Value × Value // z.1 = .pointer none ∨ z.1 = .pointer (some ⟨b, 0, none⟩) }
def bld (b : Nat) (bs : List UInt8) : HProp := ex fun z : bldZ b => [pt b (.cells #[z.1.1, z.1.2] 98), rowF 5 1 z.1.2 bs.length (bvals bs)]
theorem bld_new {b : Nat} {l : List HProp} {w : World} (hE : Ent (pt b (.cells #[.pointer none, .slice none 0 0] 98) :: l) w) : Ent (bld b [] :: l) w :=
  Ent.pack (⟨(.pointer none, .slice none 0 0), .inl rfl⟩ : bldZ b) ((hE.nilF _ _).front 1 rfl)
theorem byteCells_mk (ys : List UInt8) : byteCells ⟨ys.toArray⟩ = bvals ys := by simp only [byteCells, bvals, List.toList_toArray]; rfl
theorem infoBF : ∃ i, Tryd.prog.info? 5 = some i ∧ i.zero = some (.int .u8 0) ∧ i.size = 1 ∧ i.bytes = 1 := info_parts infoB

theorem sizeBuilder : (Tryd.prog.info? 98).map (·.size) = some 2 := by kernel_rfl
theorem liesBuilder : liesAt Tryd.prog Tryd.prog.depth 98 (2 / Tryd.prog.cellsOf 98) 0 98 1 = true := by kernel_rfl
set_option maxHeartbeats 1000000 in
set_option maxRecDepth 100000 in
theorem copyCheck_any {b : Nat} {p v : Value} (hp : p = .pointer none ∨ p = .pointer (some ⟨b, 0, none⟩)) {l : List HProp} {w : World} (hE : Ent (pt b (.cells #[p, v] 98) :: l) w) :
    Calls Tryd.prog 76 #[.pointer (some ⟨b, 0, none⟩)] w (Ret fun r w' => r = .tuple #[] ∧ Ent (pt b (.cells #[.pointer (some ⟨b, 0, none⟩), v] 98) :: l) w') := by
  obtain ⟨j, hj, hjs⟩ := Option.map_eq_some_iff.1 sizeBuilder
  have h0 : w.cell? ⟨b, 0, none⟩ = some p := hE.cell 0 rfl 0
  have hfz := hE.frozen 0 rfl 0
  have hsh : w.shape? b = some (98, 2) := by simp only [World.shape?, hE.at 0 rfl]; rfl
  rcases hp with rfl | rfl
  · go_enter Tryd.func76, Tryd.ntmps76
    go_wp2
    rw [Lib.run_to_unsafe w ⟨b, 0, none⟩ Tryd.underlying96 Tryd.underlying111 hj (by rw [hjs]; decide) hsh (Nat.zero_lt_succ 1)]
    simp only [Result.andThen]
    rw [Oper.upon_value]
    go_wp2
    rw [run_callFunc_extern Tryd.func82 (by kernel_rfl) (by kernel_rfl) (by kernel_rfl) (e := Extern.AbiNoEscape.same) (by kernel_rfl)]
    rw [Lib.run_noEscape]
    simp only [Result.andThen]
    rw [Oper.upon_value]
    go_wp2
    rw [Lib.run_from_unsafe w ⟨b, 0, none⟩ Tryd.underlying111 Tryd.underlying96 hj hsh liesBuilder]
    simp only [Result.andThen]
    rw [Oper.upon_value]
    go_wp2
    go_end0
    exact ⟨_, rfl, rfl, hE.setCell 0 rfl 0 _⟩
  · go_enter Tryd.func76, Tryd.ntmps76
    go_wp2
    rw [Lib.run_neq_ptr_same w _ Tryd.underlying96 hj]
    go_wp2
    go_end0
    exact ⟨_, rfl, rfl, hE⟩

set_option maxRecDepth 100000 in
theorem WriteString_any {b : Nat} {bs ys : List UInt8} (hl : bs.length + ys.length ≤ 140737488355328) {l : List HProp} {w : World} (hE : Ent (bld b bs :: l) w) :
    Calls Tryd.prog 63 #[.pointer (some ⟨b, 0, none⟩), .string ⟨ys.toArray⟩] w (Ret fun r w' => r = .tuple #[.int .i64 ys.length, .nilIface] ∧ Ent (bld b (bs ++ ys) :: l) w') := by
  obtain ⟨⟨⟨p, v⟩, hp⟩, hE⟩ := hE.unpack
  obtain ⟨i, hi, hz, hs, hy⟩ := infoBF
  simp only [List.cons_append, List.nil_append] at hE hp
  have hsz : (⟨ys.toArray⟩ : ByteArray).size = ys.length := by simp [ByteArray.size]
  go_enter Tryd.func63, Tryd.ntmps63
  go_wp2_with (first
    | go_skip
    | (go_at_call 76; refine (copyCheck_any hp hE).mono ?_; clear hE; rintro e w2 ⟨r, rfl, rfl, hE⟩)
    | ((with_reducible (show Go.wpList _ _ _ (Go.Oper.mk _ (.load _ _) _ _ _ _ :: _) _ _)); (first | (refine wpl_load1 hE 0 rfl rfl rfl rfl (by simp [go_sem]) rfl ?_) | (refine wpl_load1 hE 1 rfl rfl rfl rfl (by simp [go_sem]) rfl ?_) | (refine wpl_load1 hE 2 rfl rfl rfl rfl (by simp [go_sem]) rfl ?_) | (refine wpl_load1 hE 3 rfl rfl rfl rfl (by simp [go_sem]) rfl ?_) | (refine wpl_load1 hE 4 rfl rfl rfl rfl (by simp [go_sem]) rfl ?_) | (refine wpl_load1 hE 5 rfl rfl rfl rfl (by simp [go_sem]) rfl ?_) | (refine wpl_load1 hE 6 rfl rfl rfl rfl (by simp [go_sem]) rfl ?_) | (refine wpl_load1 hE 7 rfl rfl rfl rfl (by simp [go_sem]) rfl ?_)))
    | ((with_reducible (show Go.wpList _ _ _ (Go.Oper.mk _ (.call { callee := .builtin .append, args := _, argTypes := _ }) _ _ _ _ :: _) _ _)); refine wpl_appendSF hE 1 rfl rfl rfl rfl (b := ⟨ys.toArray⟩) rfl Tryd.underlying75 Tryd.underlying9 hi hz hs hy (by rw [hsz]; exact hl) ?_; clear hE; intro ao' c' w6 hE; simp only [List.set_cons_zero, List.set_cons_succ] at hE)
    | ((with_reducible (show Go.wpList _ _ _ (Go.Oper.mk _ (.store _ _ _) _ _ _ _ :: _) _ _)); (first | (refine wpl_st1 hE 0 rfl rfl rfl rfl rfl (by first | (simp [go_sem]; done) | (simp [go_sem]; rfl)) rfl rfl (by simp) ?_) | (refine wpl_st1 hE 1 rfl rfl rfl rfl rfl (by first | (simp [go_sem]; done) | (simp [go_sem]; rfl)) rfl rfl (by simp) ?_) | (refine wpl_st1 hE 2 rfl rfl rfl rfl rfl (by first | (simp [go_sem]; done) | (simp [go_sem]; rfl)) rfl rfl (by simp) ?_) | (refine wpl_st1 hE 3 rfl rfl rfl rfl rfl (by first | (simp [go_sem]; done) | (simp [go_sem]; rfl)) rfl rfl (by simp) ?_) | (refine wpl_st1 hE 4 rfl rfl rfl rfl rfl (by first | (simp [go_sem]; done) | (simp [go_sem]; rfl)) rfl rfl (by simp) ?_) | (refine wpl_st1 hE 5 rfl rfl rfl rfl rfl (by first | (simp [go_sem]; done) | (simp [go_sem]; rfl)) rfl rfl (by simp) ?_) | (refine wpl_st1 hE 6 rfl rfl rfl rfl rfl (by first | (simp [go_sem]; done) | (simp [go_sem]; rfl)) rfl rfl (by simp) ?_) | (refine wpl_st1 hE 7 rfl rfl rfl rfl rfl (by first | (simp [go_sem]; done) | (simp [go_sem]; rfl)) rfl rfl (by simp) ?_)); clear hE; intro w hE; simp only [Act.eval, getD_lit, List.getD_cons_succ, List.getD_cons_zero, List.set_cons_zero, List.set_cons_succ] at hE))
  go_ret2
  rw [hsz, byteCells_mk] at hE
  refine ⟨_, rfl, rfl, Ent.pack (⟨(.pointer (some ⟨b, 0, none⟩), .slice ao' (bs.length + ys.length) c'), .inr rfl⟩ : bldZ b) ?_⟩
  rw [List.length_append, bvals_append]
  exact hE

set_option maxRecDepth 100000 in
theorem WriteByte_any {b : Nat} {bs : List UInt8} {y : UInt8} (hl : bs.length + 1 ≤ 140737488355328) {l : List HProp} {w : World} (hE : Ent (bld b bs :: l) w) :
    Calls Tryd.prog 65 #[.pointer (some ⟨b, 0, none⟩), .int .u8 y.toNat] w (Ret fun r w' => r = .nilIface ∧ Ent (bld b (bs ++ [y]) :: l) w') := by
  obtain ⟨⟨⟨p, v⟩, hp⟩, hE⟩ := hE.unpack
  obtain ⟨i, hi, hz, hs, hy⟩ := infoBF
  simp only [List.cons_append, List.nil_append] at hE hp
  generalize hyn : y.toNat = n at *
  go_enter Tryd.func65, Tryd.ntmps65
  go_wp2_with (first
    | go_skip
    | (go_at_call 76; refine (copyCheck_any hp hE).mono ?_; clear hE; rintro e w2 ⟨r, rfl, rfl, hE⟩)
    | ((with_reducible (show Go.wpList _ _ _ (Go.Oper.mk _ (.load _ _) _ _ _ _ :: _) _ _)); (first | (refine wpl_load1 hE 0 rfl rfl rfl rfl (by simp [go_sem]) rfl ?_) | (refine wpl_load1 hE 1 rfl rfl rfl rfl (by simp [go_sem]) rfl ?_) | (refine wpl_load1 hE 2 rfl rfl rfl rfl (by simp [go_sem]) rfl ?_) | (refine wpl_load1 hE 3 rfl rfl rfl rfl (by simp [go_sem]) rfl ?_) | (refine wpl_load1 hE 4 rfl rfl rfl rfl (by simp [go_sem]) rfl ?_) | (refine wpl_load1 hE 5 rfl rfl rfl rfl (by simp [go_sem]) rfl ?_) | (refine wpl_load1 hE 6 rfl rfl rfl rfl (by simp [go_sem]) rfl ?_) | (refine wpl_load1 hE 7 rfl rfl rfl rfl (by simp [go_sem]) rfl ?_)))
    | ((with_reducible (show Go.wpList _ _ _ (Go.Oper.mk _ (.call { callee := .builtin .append, args := _, argTypes := _ }) _ _ _ _ :: _) _ _)); have hE9 := hE.alloc (.cells #[.int .u8 n] 5); refine wpl_appendBF hE9 2 rfl rfl rfl rfl rfl (news := [.int .u8 n]) rfl (fun j u hu => by rw [Addr.add_lit, Nat.zero_add]; exact (hE9.cell 0 rfl j).trans (by simpa using hu)) (by simp [Value.oneCell']) Tryd.underlying75 hi hz hs hy hl ?_; clear hE hE9; intro ao' c' w6 hE; simp only [List.set_cons_zero, List.set_cons_succ] at hE)
    | ((with_reducible (show Go.wpList _ _ _ (Go.Oper.mk _ (.store _ _ _) _ _ _ _ :: _) _ _)); (first | (refine wpl_st1 hE 0 rfl rfl rfl rfl rfl (by first | (simp [go_sem]; done) | (simp [go_sem]; rfl)) rfl rfl (by simp) ?_) | (refine wpl_st1 hE 1 rfl rfl rfl rfl rfl (by first | (simp [go_sem]; done) | (simp [go_sem]; rfl)) rfl rfl (by simp) ?_) | (refine wpl_st1 hE 2 rfl rfl rfl rfl rfl (by first | (simp [go_sem]; done) | (simp [go_sem]; rfl)) rfl rfl (by simp) ?_) | (refine wpl_st1 hE 3 rfl rfl rfl rfl rfl (by first | (simp [go_sem]; done) | (simp [go_sem]; rfl)) rfl rfl (by simp) ?_) | (refine wpl_st1 hE 4 rfl rfl rfl rfl rfl (by first | (simp [go_sem]; done) | (simp [go_sem]; rfl)) rfl rfl (by simp) ?_) | (refine wpl_st1 hE 5 rfl rfl rfl rfl rfl (by first | (simp [go_sem]; done) | (simp [go_sem]; rfl)) rfl rfl (by simp) ?_) | (refine wpl_st1 hE 6 rfl rfl rfl rfl rfl (by first | (simp [go_sem]; done) | (simp [go_sem]; rfl)) rfl rfl (by simp) ?_) | (refine wpl_st1 hE 7 rfl rfl rfl rfl rfl (by first | (simp [go_sem]; done) | (simp [go_sem]; rfl)) rfl rfl (by simp) ?_)); clear hE; intro w hE; simp only [Act.eval, getD_lit, List.getD_cons_succ, List.getD_cons_zero, List.set_cons_zero, List.set_cons_succ] at hE))
  go_ret
  refine ⟨_, rfl, rfl, Ent.pack (⟨(.pointer (some ⟨b, 0, none⟩), .slice ao' (bs.length + 1) c'), .inr rfl⟩ : bldZ b) ?_⟩
  rw [List.length_append, bvals_append]
  subst hyn
  exact hE.tail
theorem strPtr : Tryd.prog.underlying 110 = some (.pointer 5) := by kernel_rfl
theorem cellsByteB : Tryd.prog.cellsOf 5 = 1 := by kernel_rfl
theorem hid_bld {b : Nat} {bs : List UInt8} {l : List HProp} {w : World} (hE : Ent (bld b bs :: l) w) : ∃ p v, (p = .pointer none ∨ p = .pointer (some ⟨b, 0, none⟩)) ∧ Ent (pt b (.cells #[p, v] 98) :: rowF 5 1 v bs.length (bvals bs) :: l) w := by
  obtain ⟨⟨⟨p, v⟩, hp⟩, hE⟩ := hE.unpack
  exact ⟨p, v, hp, hE⟩
theorem bld_back {b : Nat} {bs : List UInt8} {p v : Value} (hp : p = .pointer none ∨ p = .pointer (some ⟨b, 0, none⟩)) {l : List HProp} {w : World} (hE : Ent (pt b (.cells #[p, v] 98) :: rowF 5 1 v bs.length (bvals bs) :: l) w) : Ent (bld b bs :: l) w :=
  Ent.pack (⟨(p, v), hp⟩ : bldZ b) hE

set_option maxHeartbeats 2000000 in
set_option maxRecDepth 100000 in
theorem String_any {b : Nat} {bs : List UInt8} {l : List HProp} {w : World} (hE : Ent (bld b bs :: l) w) :
    Calls Tryd.prog 66 #[.pointer (some ⟨b, 0, none⟩)] w (Ret fun r w' => r = .string ⟨bs.toArray⟩ ∧ Ent (bld b bs :: l) w') := by
  obtain ⟨p, v, hp, hE⟩ := hid_bld hE
  have mixed : Tryd.prog.follows .mixedOrders = true := by kernel_rfl
  have hown := hE.ownsF 1 rfl
  have hED := hE.drew
  have c1 : w.drew.cell? ⟨b, 1, none⟩ = some v := hED.cell 0 rfl 1
  rcases hown.2 with ⟨rfl, h0⟩ | ⟨g, cap, cur, fz, rfl, _, hg, hfz, hnc, hcm, hcs, htake⟩
  · obtain rfl : bs = [] := List.eq_nil_of_length_eq_zero h0
    have hUS : (Builtin.unsafeString_ #[110, 3] 9 #[.pointer none, .int .i64 0]).run Tryd.prog w.drew = .ok (.string .empty) w.drew := Lib.run_unsafeString_none w.drew _ _ _ none
    have hSD : (Builtin.unsafeSliceData_ #[75] 110 #[.slice none 0 0]).run Tryd.prog w.drew = .ok (.pointer none) w.drew := rfl
    go_enter Tryd.func66, Tryd.ntmps66
    go_wp2
    go_region_o
    all_goals (go_wp2; go_ret; exact ⟨_, rfl, rfl, bld_back hp hED⟩)
  · by_cases h0 : bs = []
    · subst h0
      by_cases hc0 : cap = 0
      · subst hc0
        have hSD : (Builtin.unsafeSliceData_ #[75] 110 #[.slice (some ⟨g, 0, none⟩) 0 0]).run Tryd.prog w.drew = .ok (.pointer (some ⟨w.drew.heap.size, 0, none⟩)) (w.drew.alloc (.view ⟨g, 0, none⟩ 5)) :=
          Lib.run_unsafeSliceData_zero w.drew _ _ 5 strPtr ⟨g, 0, none⟩ 0 (5, cur.size) (by have hg' : w.drew.heap[g]? = some (.cells cur 5 fz) := hg; simp [World.shape?, hg'])
        have hUS : ∀ q W, (Builtin.unsafeString_ #[110, 3] 9 #[.pointer q, .int .i64 0]).run Tryd.prog W = .ok (.string .empty) W := fun q W => Lib.run_unsafeString_none W _ _ _ q
        have hEA := (hED.alloc (.view ⟨g, 0, none⟩ 5)).tail
        have c2 : (w.drew.alloc (.view ⟨g, 0, none⟩ 5)).cell? ⟨b, 1, none⟩ = some (.slice (some ⟨g, 0, none⟩) 0 0) := hEA.cell 0 rfl 1
        have c3 : (w.alloc (.view ⟨g, 0, none⟩ 5)).drew.cell? ⟨b, 1, none⟩ = some (.slice (some ⟨g, 0, none⟩) 0 0) := c2
        have c0 : w.cell? ⟨b, 1, none⟩ = some (.slice (some ⟨g, 0, none⟩) 0 0) := c1
        go_enter Tryd.func66, Tryd.ntmps66
        go_wp2
        go_region_o
        all_goals (go_wp2; go_ret; exact ⟨_, rfl, rfl, bld_back hp hEA⟩)
      · have hSD : (Builtin.unsafeSliceData_ #[75] 110 #[.slice (some ⟨g, 0, none⟩) 0 cap]).run Tryd.prog w.drew = .ok (.pointer (some ⟨g, 0, none⟩)) w.drew :=
          Lib.run_unsafeSliceData_row _ _ _ _ _ _ hc0
        have hUS : ∀ q W, (Builtin.unsafeString_ #[110, 3] 9 #[.pointer q, .int .i64 0]).run Tryd.prog W = .ok (.string .empty) W := fun q W => Lib.run_unsafeString_none W _ _ _ q
        clear hc0
        go_enter Tryd.func66, Tryd.ntmps66
        go_wp2
        go_region_o
        all_goals (go_wp2; go_ret; exact ⟨_, rfl, rfl, bld_back hp hED⟩)
    · have hpos : bs.length ≠ 0 := by simpa using h0
      have hSD : (Builtin.unsafeSliceData_ #[75] 110 #[.slice (some ⟨g, 0, none⟩) bs.length cap]).run Tryd.prog w.drew = .ok (.pointer (some ⟨g, 0, none⟩)) w.drew :=
        Lib.run_unsafeSliceData_row _ _ _ _ _ _ (by omega)
      have hUS : (Builtin.unsafeString_ #[110, 3] 9 #[.pointer (some ⟨g, 0, none⟩), .int .i64 bs.length]).run Tryd.prog w.drew = .ok (.string ⟨bs.toArray⟩) (w.drew.freeze ⟨g, 0, none⟩ bs.length) := by
        refine Lib.run_unsafeString_row w.drew 110 3 9 5 strPtr cellsByteB g cur.size (by have hg' : w.drew.heap[g]? = some (.cells cur 5 fz) := hg; simp [World.shape?, hg']) bs h0 (by omega) (by unfold maxLen at hcm; omega) ?_
        intro j x hx
        have hj : j < bs.length := (List.getElem?_eq_some_iff.1 hx).1
        have h2 : (cur.toList.take (bs.length * 1))[j]? = some (.int .u8 x.toNat) := by rw [htake]; simp [bvals, hx, bval]
        rw [List.getElem?_take, if_pos (by omega)] at h2
        have hg' : w.drew.heap[g]? = some (.cells cur 5 fz) := hg
        rw [Addr.add_lit]
        simp only [World.cell?, hg']
        simpa using h2
      have hEF := hED.freeze 1 rfl
      go_enter Tryd.func66, Tryd.ntmps66
      go_wp2
      go_region_o
      all_goals (go_wp2; go_ret; exact ⟨_, rfl, rfl, bld_back hp hEF⟩)
end Go.Proofs.YtjmllpgmbaoebaaDoor
namespace Go.Proofs.YtjmllpgmbaoebaaDoor
open Go.RowKit Go.SL

def AtRel (q : List (List UInt8)) (t0 : Tr) (b2 b4 : Nat) (lk l : List HProp) (i : Value) (wr : World) : Prop :=
  ∃ (k : Nat) (t : Tr) (d : Nat) (kv : Value), k ≤ q.length ∧ i = .int .i64 k ∧ atT 11 10 q t0 = atT 11 10 (q.drop k) t ∧ Tr.Wf d t ∧ KidsAt lk kv t.kids ∧
    Ent (pt b4 (.cells #[.bool false, .string ⟨#[]⟩, .slice none 0 0] 28) :: pt b2 (.cells #[.bool t.dir, .string ⟨t.data.toArray⟩, kv] 28) :: l) wr
set_option maxRecDepth 100000 in
set_option maxHeartbeats 8000000 in
attribute [-go_sem] Instr.loadAt in
theorem At_in {t0 : Tr} {d0 : Nat} (hw : Tr.Wf d0 t0) {kv0 : Value} {lk l : List HProp} (hlk : ∀ W, Ent l W → Ent lk W) (hkv : KidsAt lk kv0 t0.kids) {q : List (List UInt8)} (hq : q.length ≤ 1000) {an : Option Addr} {cn : Nat} {w : World} (hn : Knows l (reads (.slice an q.length cn) q.length (q.map strv))) (hE : Ent l w) :
    Calls Tryd.prog 15 #[nodeV t0 kv0, .slice an q.length cn] w (Ret fun v w' => ∃ kv', v = .tuple #[nodeV (atT 11 10 q t0).2 kv', .int .i64 (atT 11 10 q t0).1] ∧ Ent l w' ∧ KidsAt lk kv' (atT 11 10 q t0).2.kids) := by
  have Hlk := SL.hid hlk
  clear hlk
  unfold nodeV
  go_enter Tryd.func15, Tryd.ntmps15
  go_wp2_with (first
    | go_skip
    | ((with_reducible (show Go.wpList _ _ _ (Go.Oper.mk _ (.box _ _) _ _ _ _ :: _) _ _)); refine wpl_box hE rfl rfl rfl ?_; clear hE; intro b2 w hE; simp only [Act.eval, Act.put, List.setIfInBounds_toArray, List.set_cons_zero, List.set_cons_succ, getD_lit, List.getD_cons_succ, List.getD_cons_zero, Value.cells] at hE)
    | ((with_reducible (show Go.wpList _ _ _ (Go.Oper.mk _ (.alloc _) _ _ _ _ :: _) _ _)); refine wpl_alloc hE rfl rfl (by simp [go_sem]; rfl) ?_; clear hE; intro b4 w hE; simp only [Act.eval, Act.put, List.setIfInBounds_toArray, List.set_cons_zero, List.set_cons_succ, getD_lit, List.getD_cons_succ, List.getD_cons_zero, Value.cells] at hE))
  go_loopw [12] (fun i wr => AtRel q t0 b2 b4 lk l i wr) (fun i _ => q.length - (intOf i).toNat)
  case atStart => exact ⟨0, t0, d0, kv0, Nat.zero_le _, rfl, rfl, hw, hkv, hE⟩
  case round =>
    clear hE hw hkv
    obtain ⟨k, t, d, kv, hkn, rfl, hB, hw, hkv, hE⟩ := hrel
    by_cases hlt : k < q.length
    · obtain ⟨b, off, rfl, hz⟩ := reads_form (hn _ hE.tail.tail) (by omega) (by rw [List.length_map]; omega)
      clear hz
      have hln : (Instr.loadAt 9 (.pointer (some ⟨b, off + k, none⟩))).run Tryd.prog wr = .ok (.string ⟨q[k].toArray⟩) wr := atCell (str_cells (hn _ hE.tail.tail) hlt) (by simp [go_sem])
      have hdk : q.drop k = q[k] :: q.drop (k + 1) := List.drop_eq_getElem_cons hlt
      rw [hdk, atT] at hB
      have hr := Tr.wf_rising hw
      have h6 := (Tr.wf_size hw).2
      obtain ⟨t_d, t_b, ks⟩ := t
      obtain ⟨ao, c, vs, rfl, hc, hl, hkk, hks, hone⟩ := hkv.open
      replace hl : vs.length = ks.length := hl
      replace h6 : ks.length ≤ 6 := h6
      replace hkk : Knows lk (reads (.slice ao ks.length c) ks.length (kCs ks vs)) := hkk
      replace hks : ∀ (i : Nat) (h : i < ks.length) (h' : i < vs.length), KidsAt lk vs[i] ks[i].2.kids := hks
      replace hkv : KidsAt lk (.slice ao ks.length c) ks := hkv
      have hF := SL.hid (show ∀ (L : List HProp), l <:+ L → ∀ w, Ent L w → Calls Tryd.prog 34 #[.slice ao ks.length c, .string ⟨q[k].toArray⟩, .func (.func 35) #[] #[]] w
        (Ret fun r w' => r = .tuple #[.int .i64 (placeOf (ks.map Prod.fst) q[k]), .bool (isIn (ks.map Prod.fst) q[k])] ∧ Ent L w') from fun L hL w hw => find_any (hkv.mono fun p hp W hW => hp W (Hlk.out W (hW.suf hL))) hr (by omega) _ hw)
      have hplace : isIn (ks.map Prod.fst) q[k] = true → ∃ x : Tr, ks[placeOf (ks.map Prod.fst) q[k]]? = some (q[k], x) ∧ Tr.kid? (.nd t_d t_b ks) q[k] = some x := fun h => by
        obtain ⟨hi, e, e2⟩ := Tr.kid_place (t := .nd t_d t_b ks) hr h
        exact ⟨_, (List.getElem?_eq_getElem hi).trans (congrArg some (Prod.ext e rfl)), e2⟩
      have hnone : isIn (ks.map Prod.fst) q[k] = false → Tr.kid? (.nd t_d t_b ks) q[k] = none := fun h => Tr.kid_none.2 h
      have Hn := SL.hid hn
      have Hks := SL.hid hks
      have hks2 := Hks
      simp only [Tr.dir, Tr.data] at hB hE ⊢
      generalize placeOf (ks.map Prod.fst) q[k] = p at *
      generalize isIn (ks.map Prod.fst) q[k] = is at *
      cases t_d with
      | false =>
        have HT := SL.hid (show atT 11 10 q t0 = (11, .zero) from hB.trans (if_neg (by simp)))
        clear hB hplace hnone hks2
        generalize q[k] = x at *
        as_aux_lemma =>
          go_wp2_with (first
            | go_skip
            | ((with_reducible (show Go.wpList _ _ _ (Go.Oper.mk _ (.load 9 _) _ _ _ _ :: _) _ _)); refine wpl_run rfl (w' := wr) (v := .string ⟨x.toArray⟩) (by simp only [execOp, Act.eval]; simp [hln]) ?_)
            | ((with_reducible (show Go.wpList _ _ _ (Go.Oper.mk _ (.load 26 _) _ _ _ _ :: _) _ _)); refine wpl_load1 hE 1 rfl rfl rfl rfl (by simp [go_sem]) rfl ?_)
            | ((with_reducible (show Go.wpList _ _ _ (Go.Oper.mk _ (.load 4 _) _ _ _ _ :: _) _ _)); refine wpl_load1 hE 1 rfl rfl rfl rfl (by simp [go_sem]) rfl ?_)
            | (go_at_call 34; refine (hF.out _ (by exact List.suffix_append [_, _] l) _ hE).mono ?_; clear hE; rintro e w3 ⟨v, rfl, rfl, hE⟩)
            | ((with_reducible (show Go.wpList _ _ _ (Go.Oper.mk _ (.store 28 _ _) _ _ _ _ :: _) _ _)); refine wpl_storeW hE 0 rfl rfl rfl (xs := [.bool false, .string ⟨#[]⟩, .slice none 0 0]) rfl rfl Tryd.sizeOf28 rfl (by simp [Value.oneCell']) rfl ?_; clear hE; intro w8 hE; simp only [List.set_cons_zero, List.set_cons_succ] at hE))
          refine bodyPost_ret (results_cell2 rfl hE 0 rfl rfl Tryd.isAgg28 Tryd.sizeOf28 rfl rfl) rfl ?_
          rw [HT.out]
          exact ⟨_, rfl, .slice none 0 0, rfl, hE.tail.tail, KidsAt.nil _⟩
      | true =>
        cases is with
        | false =>
          have HT := SL.hid (show atT 11 10 q t0 = (10, .zero) from by rw [hB]; simp [hnone rfl])
          clear hB hplace hnone hks2
          generalize q[k] = x at *
          as_aux_lemma =>
          go_wp2_with (first
            | go_skip
            | ((with_reducible (show Go.wpList _ _ _ (Go.Oper.mk _ (.load 9 _) _ _ _ _ :: _) _ _)); refine wpl_run rfl (w' := wr) (v := .string ⟨x.toArray⟩) (by simp only [execOp, Act.eval]; simp [hln]) ?_)
            | ((with_reducible (show Go.wpList _ _ _ (Go.Oper.mk _ (.load 26 _) _ _ _ _ :: _) _ _)); refine wpl_load1 hE 1 rfl rfl rfl rfl (by simp [go_sem]) rfl ?_)
            | ((with_reducible (show Go.wpList _ _ _ (Go.Oper.mk _ (.load 4 _) _ _ _ _ :: _) _ _)); refine wpl_load1 hE 1 rfl rfl rfl rfl (by simp [go_sem]) rfl ?_)
            | (go_at_call 34; refine (hF.out _ (by exact List.suffix_append [_, _] l) _ hE).mono ?_; clear hE; rintro e w3 ⟨v, rfl, rfl, hE⟩)
            | ((with_reducible (show Go.wpList _ _ _ (Go.Oper.mk _ (.store 28 _ _) _ _ _ _ :: _) _ _)); refine wpl_storeW hE 0 rfl rfl rfl (xs := [.bool false, .string ⟨#[]⟩, .slice none 0 0]) rfl rfl Tryd.sizeOf28 rfl (by simp [Value.oneCell']) rfl ?_; clear hE; intro w8 hE; simp only [List.set_cons_zero, List.set_cons_succ] at hE))
          refine bodyPost_ret (results_cell2 rfl hE 0 rfl rfl Tryd.isAgg28 Tryd.sizeOf28 rfl rfl) rfl ?_
          rw [HT.out]
          exact ⟨_, rfl, .slice none 0 0, rfl, hE.tail.tail, KidsAt.nil _⟩
        | true =>
          obtain ⟨x0, hx0, hx1⟩ := hplace rfl
          obtain ⟨hpk, hpe⟩ := List.getElem?_eq_some_iff.1 hx0
          have HT := SL.hid (show atT 11 10 q t0 = atT 11 10 (q.drop (k + 1)) x0 from by rw [hB]; simp [hx1])
          obtain ⟨d', rfl, hwk⟩ := Tr.wf_kid hw (show (q[k], x0) ∈ (Tr.nd true t_b ks).kids from hpe ▸ List.getElem_mem hpk)
          obtain ⟨bk, ok, hao, hz⟩ := kids_at hl (hkk _ (Hlk.out _ hE.tail.tail)) hpk
          clear hz
          subst hao
          have hLe := SL.hid (show ∀ (W : World), Ent l W → ∀ j v, [Value.bool x0.dir, .string ⟨x0.data.toArray⟩, vs[p]'(by omega)][j]? = some v → W.cell? ((⟨bk, ok + p * 4 + 1, none⟩ : Addr).add j) = some v from fun W hW j v hv => by
            obtain ⟨b', o', e, h⟩ := kids_at hl (hkk W (Hlk.out W hW)) hpk
            cases e
            have := h (1 + j) v (by rw [kC, hpe, Nat.add_comm 1 j]; simpa using hv)
            rw [Addr.add_lit]
            rwa [← Nat.add_assoc] at this)
          have hkx : KidsAt lk (vs[p]'(by omega)) x0.kids := by
            have := hks p hpk (by omega)
            rwa [hpe] at this
          have hpi : (p : Int) < (ks.length : Int) := by omega
          have hpj : p < ks.length := hpk
          have Hwk := SL.hid hwk
          clear hB hplace hnone hks2 Hks hks hx0 hx1 hpe hw hwk hkv
          obtain ⟨kvp, hkvp⟩ : ∃ x, vs[p]'(by omega) = x := ⟨_, rfl⟩
          rw [hkvp] at hLe hkx
          clear hkvp hdk
          generalize q[k] = x at *
          as_aux_lemma =>
          go_wp2_with (first
            | go_skip
            | ((with_reducible (show Go.wpList _ _ _ (Go.Oper.mk _ (.load 9 _) _ _ _ _ :: _) _ _)); refine wpl_run rfl (w' := wr) (v := .string ⟨x.toArray⟩) (by simp only [execOp, Act.eval]; simp [hln]) ?_)
            | ((with_reducible (show Go.wpList _ _ _ (Go.Oper.mk _ (.load 26 _) _ _ _ _ :: _) _ _)); refine wpl_load1 hE 1 rfl rfl rfl rfl (by simp [go_sem]) rfl ?_)
            | ((with_reducible (show Go.wpList _ _ _ (Go.Oper.mk _ (.load 4 _) _ _ _ _ :: _) _ _)); refine wpl_load1 hE 1 rfl rfl rfl rfl (by simp [go_sem]) rfl ?_)
            | (go_at_call 34; refine (hF.out _ (by exact List.suffix_append [_, _] l) _ hE).mono ?_; clear hE; rintro e w3 ⟨v, rfl, rfl, hE⟩)
            | ((with_reducible (show Go.wpList _ _ _ (Go.Oper.mk _ (.load 28 _) _ _ _ _ :: _) _ _)); refine wpl_loadC rfl rfl rfl Tryd.isAgg28 Tryd.sizeOf28 [.bool x0.dir, .string ⟨x0.data.toArray⟩, kvp] rfl (hLe.out _ hE.tail.tail) ?_)
            | ((with_reducible (show Go.wpList _ _ _ (Go.Oper.mk _ (.store 28 _ _) _ _ _ _ :: _) _ _)); refine wpl_storeW hE 1 rfl rfl rfl (xs := [.bool x0.dir, .string ⟨x0.data.toArray⟩, kvp]) rfl rfl Tryd.sizeOf28 rfl (by obtain ⟨a1, a2, rfl⟩ := hkx.slice; simp [Value.oneCell']) rfl ?_; clear hE; intro w8 hE; simp only [List.set_cons_zero, List.set_cons_succ] at hE))
          go_roundw
          case rel => exact ⟨k + 1, x0, d', kvp, hlt, by simp, HT.out, Hwk.out, hkx, hE⟩
          case measure => simp [intOf]; omega
    · obtain rfl : k = q.length := by omega
      rw [List.drop_length] at hB
      have HT := SL.hid (show atT 11 10 q t0 = (0, t) from hB)
      as_aux_lemma =>
      go_wp2_with (first
        | go_skip
        | ((with_reducible (show Go.wpList _ _ _ (Go.Oper.mk _ (.load 28 _) _ _ _ _ :: _) _ _)); refine wpl_loadW (xs := [.bool t.dir, .string ⟨t.data.toArray⟩, kv]) hE 1 rfl rfl rfl rfl Tryd.isAgg28 Tryd.sizeOf28 rfl ?_)
        | ((with_reducible (show Go.wpList _ _ _ (Go.Oper.mk _ (.store 28 _ _) _ _ _ _ :: _) _ _)); refine wpl_storeW hE 0 rfl rfl rfl (xs := [.bool t.dir, .string ⟨t.data.toArray⟩, kv]) rfl rfl Tryd.sizeOf28 rfl (by obtain ⟨a1, a2, rfl⟩ := hkv.slice; simp [Value.oneCell']) rfl ?_; clear hE; intro w8 hE; simp only [List.set_cons_zero, List.set_cons_succ] at hE))
      refine bodyPost_ret (results_cell2 rfl hE 0 rfl rfl Tryd.isAgg28 Tryd.sizeOf28 rfl rfl) rfl ?_
      rw [HT.out]
      exact ⟨_, rfl, kv, rfl, hE.tail.tail, hkv⟩
theorem At_any {t0 : Tr} {d0 : Nat} (hw : Tr.Wf d0 t0) {kv0 : Value} {l : List HProp} (hkv : KidsAt l kv0 t0.kids) {q : List (List UInt8)} (hq : q.length ≤ 1000) {an : Option Addr} {cn : Nat} {w : World} (hn : Knows l (reads (.slice an q.length cn) q.length (q.map strv))) (hE : Ent l w) :
    Calls Tryd.prog 15 #[nodeV t0 kv0, .slice an q.length cn] w (Ret fun v w' => ∃ kv', v = .tuple #[nodeV (atT 11 10 q t0).2 kv', .int .i64 (atT 11 10 q t0).1] ∧ Ent l w' ∧ KidsAt l kv' (atT 11 10 q t0).2.kids) := At_in hw (fun _ h => h) hkv hq hn hE

/-- what is told of a kid -/
def inC (k : List UInt8 × Tr) : List Value := [.string ⟨k.1.toArray⟩, .bool k.2.dir, .int .i64 k.2.data.length]
abbrev rowI (ao : Option Addr) (c : Nat) (ks : List (List UInt8 × Tr)) : HProp := row 47 3 (.slice ao ks.length c) ks.length (ks.flatMap inC)
theorem info_info : elemInfo Tryd.prog 47 = some (some 3, 3, 32) := by kernel_rfl
theorem zs_info : zeroSize Tryd.prog 47 = some 3 := by kernel_rfl
def LiRel (ks : List (List UInt8 × Tr)) (l : List HProp) (o i : Value) (wr : World) : Prop :=
  ∃ (k : Nat) (ao : Option Addr) (c : Nat), k ≤ ks.length ∧ i = .int .i64 k ∧ o = .slice ao (ks.take k).length c ∧ Ent (rowI ao c (ks.take k) :: l) wr
set_option maxRecDepth 100000 in
set_option maxHeartbeats 8000000 in
attribute [-go_sem] Instr.loadAt in
theorem List_any {t : Tr} (hs : t.kids.length ≤ 1000) {kv : Value} {l : List HProp} (hkv : KidsAt l kv t.kids) {w : World} (hE : Ent l w) :
    Calls Tryd.prog 17 #[nodeV t kv] w (Ret fun v w' => ∃ ao c, v = .slice ao t.kids.length c ∧ Ent (rowI ao c t.kids :: l) w') := by
  obtain ⟨td, tb, ks⟩ := t
  obtain ⟨ao, c, vs, rfl, hc, hl, hkk, hks, hone⟩ := hkv.open
  simp only [nodeV, Tr.dir, Tr.data, Tr.kids] at *
  clear hone hkv
  go_enter Tryd.func17, Tryd.ntmps17
  go_wp2_with (first
    | go_skip
    | ((with_reducible (show Go.wpList _ _ _ (Go.Oper.mk _ (.box _ _) _ _ _ _ :: _) _ _)); refine wpl_box hE rfl rfl rfl ?_; clear hE; intro b1 w hE; simp only [Act.eval, Act.put, List.setIfInBounds_toArray, List.set_cons_zero, List.set_cons_succ, getD_lit, List.getD_cons_succ, List.getD_cons_zero, Value.cells] at hE)
    | ((with_reducible (show Go.wpList _ _ _ (Go.Oper.mk _ (.load 26 _) _ _ _ _ :: _) _ _)); refine wpl_load1 hE 0 rfl rfl rfl rfl (by simp [go_sem]) rfl ?_))
  replace hE := hE.tail
  go_loopw [3, 9] (fun o i wr => LiRel ks l o i wr) (fun _ i _ => ks.length - (intOf i).toNat)
  case atStart => exact ⟨0, none, 0, Nat.zero_le _, rfl, rfl, hE.nil _ _⟩
  case round =>
    clear hE
    obtain ⟨k, ar, cr, hkn, rfl, rfl, hE⟩ := hrel
    by_cases hlt : k < ks.length
    · obtain ⟨b, off, rfl, hz⟩ := kids_at hl (hkk _ hE.tail) hlt
      clear hz
      have hL := SL.hid (show ∀ W, Ent l W → ∀ j v, (kC ks[k] (vs[k]'(by omega)))[j]? = some v → W.cell? ⟨b, off + k * 4 + j, none⟩ = some v from fun W hW => by
        obtain ⟨b', off', e, h⟩ := kids_at hl (hkk _ hW) hlt
        cases e
        exact h)
      have Ht := SL.hid (List.take_succ_eq_append_getElem hlt)
      have htl : (ks.take k).length = k := by rw [List.length_take]; omega
      have Htl := SL.hid htl
      obtain ⟨kvp, hkvp⟩ : ∃ x, vs[k]'(by omega) = x := ⟨_, rfl⟩
      have Hv1 := SL.hid (show kvp.oneCell' = true from by obtain ⟨a1, a2, e⟩ := (hks k hlt (by omega)).slice; rw [← hkvp, e]; rfl)
      rw [hkvp] at hL
      clear hkvp
      generalize ks[k] = x at *
      generalize ks.take k = pr at *
      obtain ⟨xn, xt⟩ := x
      clear htl
      as_aux_lemma =>
      go_wp2_with (first
        | go_skip
        | ((with_reducible (show Go.wpList _ _ _ (Go.Oper.mk _ (.load 51 _) _ _ _ _ :: _) _ _)); refine wpl_loadC rfl rfl rfl Tryd.isAgg51 Tryd.sizeOf51 (kC (xn, xt) kvp) rfl (fun j v hv => by rw [Addr.add_lit]; exact hL.out _ (hE.suf (by repeat (first | exact List.suffix_refl _ | refine List.IsSuffix.trans ?_ (List.suffix_cons _ _)))) j v hv) ?_)
        | ((with_reducible (show Go.wpList _ _ _ (Go.Oper.mk _ (.alloc 51) _ _ _ _ :: _) _ _)); refine wpl_allocN hE rfl rfl (n := 4) (by kernel_rfl) ?_; clear hE; intro b6 cs w1 hq hE)
        | ((with_reducible (show Go.wpList _ _ _ (Go.Oper.mk _ (.store 51 _ _) _ _ _ _ :: _) _ _)); refine wpl_storeN hE 0 rfl rfl rfl rfl (xs := kC (xn, xt) kvp) rfl Tryd.sizeOf51 rfl (by intro u hu; simp only [kC, List.mem_cons, List.not_mem_nil, or_false] at hu; rcases hu with rfl | rfl | rfl | rfl <;> first | rfl | exact Hv1.out) hq ?_; clear hE hq; intro w2 hE; simp only [List.set_cons_zero] at hE)
        | ((with_reducible (show Go.wpList _ _ _ (Go.Oper.mk _ (.load 9 (.tmp 14)) _ _ _ _ :: _) _ _)); refine wpl_load1 hE 0 rfl rfl rfl rfl (by simp [go_sem]) (v := .string ⟨xn.toArray⟩) rfl ?_)
        | ((with_reducible (show Go.wpList _ _ _ (Go.Oper.mk _ (.load 4 _) _ _ _ _ :: _) _ _)); refine wpl_load1 hE 0 rfl rfl rfl rfl (by simp [go_sem]) (v := .bool xt.dir) rfl ?_)
        | ((with_reducible (show Go.wpList _ _ _ (Go.Oper.mk _ (.load 9 _) _ _ _ _ :: _) _ _)); refine wpl_load1 hE 0 rfl rfl rfl rfl (by simp [go_sem]) (v := .string ⟨xt.data.toArray⟩) rfl ?_)
        | ((with_reducible (show Go.wpList _ _ _ (Go.Oper.mk _ (.buildSlice _ _ _) _ _ _ _ :: _) _ _)); refine wpl_build1 hE rfl rfl (xs := inC (xn, xt)) rfl Tryd.underlying44 zs_info Tryd.sizeOf47 (by decide) (by decide) rfl ?_; clear hE; intro b9 w3 hE)
        | ((with_reducible (show Go.wpList _ _ _ (Go.Oper.mk _ (.call { callee := .builtin .append, args := _, argTypes := _ }) _ _ _ _ :: _) _ _)); refine wpl_appendG hE 2 rfl rfl rfl rfl rfl Tryd.underlying44 info_info (by decide) (m := 1) (news := inC (xn, xt)) (reads_pt hE 0 rfl (off := 0) (fun j u hu => by rw [Nat.zero_add, List.getElem?_toArray]; exact hu)) rfl (by simp [inC, Value.oneCell']) (by have := Htl.out; omega) (by have := Htl.out; omega) ?_; clear hE; intro ao' c' w6 hE; simp only [List.set_cons_zero, List.set_cons_succ] at hE))
      go_roundw
      case rel =>
        have e1 : (pr ++ [(xn, xt)]).length = pr.length + 1 := by simp
        have e2 : (pr ++ [(xn, xt)]).flatMap inC = pr.flatMap inC ++ inC (xn, xt) := by simp
        refine ⟨k + 1, ao', c', hlt, by simp, ?_, ?_⟩
        · rw [Ht.out, e1]
        · rw [Ht.out]
          simp only [rowI, e1, e2]
          exact hE.tail.tail
      case measure => simp [intOf] <;> omega
    · obtain rfl : k = ks.length := by omega
      rw [List.take_length] at hE ⊢
      go_wp2
      go_ret
      exact ⟨_, rfl, ar, cr, rfl, hE⟩
end Go.Proofs.YtjmllpgmbaoebaaDoor
namespace Go.SL
section
variable {P : Program} {w : World} {l : List HProp}

theorem run_copyS (dT sT ty elem : TypeId) (g dLen dCap : Nat) (ys : List UInt8) (cur : Array Value) (t : TypeId)
    (hu : P.underlying dT = some (.slice elem)) (hs : (P.info? elem).map (·.size) = some 1) (hg : w.heap[g]? = some (.cells cur t (0, 0))) (hfit : dLen ≤ cur.size) :
    (Builtin.copy_ #[dT, sT] ty #[.slice (some ⟨g, 0, none⟩) dLen dCap, .string ⟨ys.toArray⟩]).run P w =
      .ok (goInt (min ys.length dLen : Nat)) (w.setRow g (((ys.take dLen).map fun b => Value.int .u8 b.toNat) ++ cur.toList.drop (min ys.length dLen)).toArray) := by
  have hlen : ((ys.take dLen).map fun b => Value.int .u8 (b.toNat : Int)).length = min ys.length dLen := by rw [List.length_map, List.length_take, Nat.min_comm]
  have h1 : ∀ u ∈ ((ys.take dLen).map fun b => Value.int .u8 (b.toNat : Int)), u.oneCell' = true := by
    intro v hv
    simp only [List.mem_map] at hv
    obtain ⟨b, _, rfl⟩ := hv
    rfl
  have hst := run_storeCells_at P g 0 t ((ys.take dLen).map fun b => Value.int .u8 (b.toNat : Int)) 0 cur w hg (by rw [hlen]; omega) h1
  rw [hlen] at hst
  simp only [Nat.add_zero, Nat.zero_add, List.take_zero, List.nil_append] at hst
  have hsz : (ByteArray.mk ys.toArray).size = ys.length := by simp [ByteArray.size]
  have hmin : Nat.min ys.length dLen = min ys.length dLen := rfl
  have htk : List.take (min ys.length dLen) (List.map (fun b : UInt8 => Value.int IntKind.u8 (b.toNat : Int)) ys) = (ys.take dLen).map fun b => Value.int .u8 (b.toNat : Int) := by
    rw [← List.map_take]
    congr 1
    rw [Nat.min_comm, List.take_eq_take_iff]
    omega
  cases hq : P.info? elem with
  | none => simp [hq] at hs
  | some i =>
    simp [Builtin.copy_, run_underlying hu, Builtin.lenOf, Builtin.firstCells, sizeOf, typeInfo, hq, hsz, hmin]
    rw [htk, hst]
    simp [Result.andThen]

theorem step_copyS {ops : Array Oper} {o : Oper} {a : Act} {K : Act → World → Prop} {Q : Exit → Act → World → Prop} {E : Prop} (hE : Ent l w) (i : Nat) {g : Nat} {cur : Array Value} {T : TypeId} (hi : l[i]? = some (pt g (.cells cur T (0, 0))))
    {d s : Operand} {dT sT elem : TypeId} (ho : o.op = .call { callee := .builtin .copy, args := #[d, s], argTypes := #[dT, sT] }) (hw : Region.wanted o (yielded ops a.tmps) = true)
    {dLen dCap : Nat} (hd : a.eval d = .slice (some ⟨g, 0, none⟩) dLen dCap) {ys : List UInt8} (hy : a.eval s = .string ⟨ys.toArray⟩)
    (hu : P.underlying dT = some (.slice elem)) (hs : (P.info? elem).map (·.size) = some 1) (hfit : dLen ≤ cur.size)
    (h : ∀ w', Ent (l.set i (pt g (.cells (((ys.take dLen).map fun b => Value.int .u8 b.toNat) ++ cur.toList.drop (min ys.length dLen)).toArray T (0, 0)))) w' → K (a.put o.dst (goInt (min ys.length dLen : Nat))) w') :
    if Region.wanted o (yielded ops a.tmps) = true then Oper.wp P o a w K Q else E := by
  rw [if_pos hw]
  have hr := run_copyS (P := P) (w := w) dT sT o.type elem g dLen dCap ys cur T hu hs (hE.at i hi) hfit
  unfold Oper.wp execOp
  simp only [ho, resolve, invoke, builtin, Sem.run_bind, Sem.run_pure, Result.andThen_ok, List.map_toArray, List.map_cons, List.map_nil, hd, hy, hr]
  exact h _ (hE.setRow i hi _)
end
end Go.SL
namespace Go.SL
section
variable {P : Program} {w : World} {l : List HProp} {ops : Array Oper} {o : Oper} {a : Act} {K : Act → World → Prop} {Q : Exit → Act → World → Prop} {E : Prop}

theorem step_run (hw : Region.wanted o (yielded ops a.tmps) = true) {v : Value} {w' : World} (hr : (execOp a.eval o).run P w = .ok (.value v) w') (h : K (a.put o.dst v) w') :
    if Region.wanted o (yielded ops a.tmps) = true then Oper.wp P o a w K Q else E := by
  rw [if_pos hw]
  simp only [Oper.wp, hr, Oper.upon]
  exact h

theorem step_loadW (hE : Ent l w) (i : Nat) {b : Nat} {xs : List Value} {T : TypeId} {fz : Nat × Nat} (hi : l[i]? = some (pt b (.cells xs.toArray T fz)))
    {t : TypeId} {x : Operand} (ho : o.op = .load t x) (hw : Region.wanted o (yielded ops a.tmps) = true)
    (hx : a.eval x = .pointer (some ⟨b, 0, none⟩)) (hA : ∀ w, (isAgg t).run P w = .ok true w) {n : Nat} (hn : ∀ w, (Go.sizeOf t).run P w = .ok n w) (hl : xs.length = n)
    (h : K (a.put o.dst (.agg xs.toArray)) w) : if Region.wanted o (yielded ops a.tmps) = true then Oper.wp P o a w K Q else E := by
  refine step_run hw (w' := w) (v := .agg xs.toArray) ?_ h
  simp [execOp, ho, hx, run_loadA hE i hi hA hn hl (off := 0) (fun j _ => by simp)]

theorem step_neA {t e t' : TypeId} {x y : Operand} (ho : o.op = .binOp .neq t x y t') (hw : Region.wanted o (yielded ops a.tmps) = true) {ys zs : List UInt8} {n : Nat}
    (hx : a.eval x = .agg (ys.map fun b => Value.int .u8 b.toNat).toArray) (hy : a.eval y = .agg (zs.map fun b => Value.int .u8 b.toNat).toArray)
    (hm : P.eqGuardType P.depth t = false) (hu : P.underlying t = some (.array n e)) (hi : (P.info? e).isSome = true) (h1 : P.cellsOf e = 1) (he : P.underlying e = some (.int .u8)) (ha : ys.length = n) (hb : zs.length = n)
    (h : K (a.put o.dst (.bool (!(ys == zs)))) w) : if Region.wanted o (yielded ops a.tmps) = true then Oper.wp P o a w K Q else E := by
  obtain ⟨i, hi⟩ := Option.isSome_iff_exists.1 hi
  refine step_run hw (w' := w) (v := .bool (!(ys == zs))) ?_ h
  simp [execOp, ho, hx, hy, run_eqGuard_agg _ _ _ _ _ _ _ hm, run_neq_struct, run_equalA 9998 hu hi h1 he ys zs ha hb]
end
end Go.SL
namespace Go.SL
section
variable {P : Program} {w : World} {l : List HProp}
theorem reads_cap {ao : Option Addr} {n c : Nat} {xs : List Value} (h : reads (.slice ao n c) n xs w) (c' : Nat) : reads (.slice ao n c') n xs w := by
  obtain ⟨a, c0, e, h1, h2⟩ := h
  cases e
  exact ⟨_, c', rfl, h1, h2⟩
theorem Ent.appendFull {e : TypeId} {size bytes : Nat} {t : TypeId} (ty : TypeId) (hE : Ent l w) (ht : P.underlying t = some (.slice e)) (hI : elemInfo P e = some (some size, size, bytes)) (hsz : 0 < size)
    {ao : Option Addr} {n : Nat} {xs : List Value} (hr : reads (.slice ao n n) n xs w) (hxl : xs.length = n * size)
    {ad : Addr} {m c : Nat} {news : List Value} (hx : reads (.slice (some ad) m c) m news w) (hl : news.length = m * size) (hm : 0 < m) (h1 : ∀ u ∈ news, u.oneCell' = true) (hbytes : (n + m) * bytes ≤ 140737488355328) (h63 : n + m ≤ 140737488355328) :
    ∃ ao' c' w', (Builtin.append_ #[t, t] ty #[.slice ao n n, .slice (some ad) m c]).run P w = .ok (.slice ao' (n + m) c') w' ∧ Ent (row e size (.slice ao' (n + m) c') (n + m) (xs ++ news) :: l) w' := by
  obtain ⟨i, z, hi, hz, hs, hb, hzs⟩ := elemInfo_parts hI
  subst hs hb
  obtain ⟨ao2, c2, e2, hnone, hc⟩ := hr
  cases e2
  obtain ⟨ad3, c3, e3, _, hc3⟩ := hx
  cases e3
  have hsrc := Src.ofSlice (P := P) w ht ad m c news hl (hc3 ad rfl) h1
  have hlen : (xs ++ news).length = (n + m) * i.size := by rw [List.length_append, hxl, hl, Nat.add_mul]
  have hzero : ∀ k, (Builtin.zeroCells z.cells k).size = k * i.size := fun k => by rw [size_zeroCells, hzs]
  have hold : (Builtin.firstCells i.size n (.slice ao n n)).run P w.drew = .ok xs.toArray w.drew := by
    cases ao with
    | none =>
      obtain ⟨rfl, rfl⟩ := hnone rfl
      exact run_firstCells_none w.drew i.size 0 0 0
    | some a => exact run_firstCells_some w.drew i.size n a n n xs hxl (hc a rfl)
  have hr := run_append_grow_src w t t ty e i z ht hi hz ao n n xs hold (.slice (some ad) m c) m news hsrc (by omega) (by omega) (growslice_fits (by omega) hbytes)
  have hge := grownCap_ge w (n + m) n e
  refine ⟨_, _, _, hr, hE.step0 (Bs := [row e i.size _ (n + m) (xs ++ news)]) ⟨rfl, rfl, rfl⟩ (by simp) (fun b hb => RowKit.Below.heap_alloc w.drew _ b hb) ⟨fun b => b = w.heap.size, on_single ?_, fun b hb => by omega⟩⟩
  unfold row
  refine ⟨⟨hlen, .inr ⟨w.heap.size, _, _, rfl, Nat.zero_le _, heap_alloc_new w.drew _, hge, grownCap_le_maxLen w (n + m) n e (by unfold maxLen; omega), ?_, ?_⟩⟩, fun b => by simp [Value.ownBlock, eq_comm]⟩
  · rw [Array.size_append, hzero, List.size_toArray, hlen, ← Nat.add_mul]
    congr 1
    omega
  · rw [Array.toList_append, ← hlen]
    exact List.take_left
variable {ops : Array Oper} {o : Oper} {a : Act} {K : Act → World → Prop} {Q : Exit → Act → World → Prop} {E : Prop}
theorem step_appendFull {e : TypeId} {size bytes : Nat} {t : TypeId} (hE : Ent l w) {s y : Operand} (ho : o.op = .call { callee := .builtin .append, args := #[s, y], argTypes := #[t, t] }) (hw : Region.wanted o (yielded ops a.tmps) = true)
    {ao : Option Addr} {n : Nat} (hs : a.eval s = .slice ao n n) {ad : Addr} {m c : Nat} (hy : a.eval y = .slice (some ad) m c) (ht : P.underlying t = some (.slice e)) (hI : elemInfo P e = some (some size, size, bytes)) (hsz : 0 < size)
    {xs : List Value} (hr : reads (.slice ao n n) n xs w) (hxl : xs.length = n * size) {news : List Value} (hx : reads (.slice (some ad) m c) m news w) (hl : news.length = m * size) (hm : 0 < m) (h1 : ∀ u ∈ news, u.oneCell' = true) (hbytes : (n + m) * bytes ≤ 140737488355328) (h63 : n + m ≤ 140737488355328)
    (h : ∀ ao' c' w', Ent (row e size (.slice ao' (n + m) c') (n + m) (xs ++ news) :: l) w' → K (a.put o.dst (.slice ao' (n + m) c')) w') : if Region.wanted o (yielded ops a.tmps) = true then Oper.wp P o a w K Q else E := by
  rw [if_pos hw]
  obtain ⟨ao', c', w', hr0, hE'⟩ := hE.appendFull (P := P) o.type ht hI hsz hr hxl hx hl hm h1 hbytes h63
  unfold Oper.wp execOp
  simp only [ho, resolve, invoke, builtin, Sem.run_bind, Sem.run_pure, Result.andThen_ok, List.map_toArray, List.map_cons, List.map_nil, hs, hy, hr0]
  exact h ao' c' w' hE'
theorem step_build1 (hE : Ent l w) {t e : TypeId} {x : Operand} (ho : o.op = .buildSlice t 1 #[(0, x)]) (hw : Region.wanted o (yielded ops a.tmps) = true) {xs : List Value} (hx : a.eval x = .agg xs.toArray)
    (ht : P.underlying t = some (.slice e)) {size : Nat} (hI : zeroSize P e = some size) (hn : ∀ w, (Go.sizeOf e).run P w = .ok size w) (h0 : 0 < size) (h24 : size ≤ 16777216) (hxl : xs.length = size)
    (h : ∀ b w', Ent (pt b (.cells xs.toArray e) :: l) w' → K (a.put o.dst (.slice (some ⟨b, 0, none⟩) 1 1)) w') : if Region.wanted o (yielded ops a.tmps) = true then Oper.wp P o a w K Q else E := by
  have hr := run_buildSlice1 (P := P) (w := w) ht hI hn h0 h24 xs hxl
  refine step_run hw (w' := w.alloc (.cells xs.toArray e)) (v := .slice (some ⟨w.heap.size, 0, none⟩) 1 1) ?_ (h _ _ (hE.alloc _))
  simp [execOp, ho, hx, hr]
/-- one cell written, as one step of a region that draws -/
theorem step_setC (hE : Ent l w) (i : Nat) {b : Nat} {cur : Array Value} {T : TypeId} (hi : l[i]? = some (pt b (.cells cur T (0, 0))))
    {t : TypeId} {x y : Operand} (ho : o.op = .store t x y) (hw : Region.wanted o (yielded ops a.tmps) = true) {off : Nat} (hx : a.eval x = .pointer (some ⟨b, off, none⟩)) {v : Value} (hy : a.eval y = v)
    (hn : ∀ w, (Go.sizeOf t).run P w = .ok 1 w) (hv : v.cells = #[v]) (h1 : v.oneCell' = true) (hfit : off < cur.size)
    (h : ∀ w', Ent (l.set i (pt b (.cells (cur.setIfInBounds off v) T (0, 0)))) w' → K (a.put o.dst undef) w') : if Region.wanted o (yielded ops a.tmps) = true then Oper.wp P o a w K Q else E := by
  rw [if_pos hw]
  have hr := run_storeV (P := P) hE i hi (t := t) (v := v) (n := 1) hn (by rw [hv]; rfl) (by rw [hv]; simpa using h1) (off := off) (by omega)
  have e : (cur.toList.take off ++ v.cells.toList ++ cur.toList.drop (off + v.cells.toList.length)).toArray = cur.setIfInBounds off v := by
    rw [hv]
    apply Array.ext'
    rw [Array.toList_setIfInBounds, List.set_eq_take_append_cons_drop, if_pos (by simpa using hfit)]
    simp
  rw [e] at hr
  have hx2 : (execOp a.eval o).run P w = .ok .skip (w.setRow b (cur.setIfInBounds off v)) := by simp [execOp, ho, hx, hy, hr]
  simp only [Oper.wp, hx2, Oper.upon]
  exact h _ (hE.setRow i hi _)
end
end Go.SL
namespace Go.Proofs.YtjmllpgmbaoebaaDoor
open Go.RowKit Go.SL

theorem Clip_any (ao : Option Addr) (n c : Nat) (h : n ≤ c) (w : World) : Calls Tryd.prog 32 #[.slice ao n c] w (fun e w' => e = .returned (.slice ao n n) ∧ w' = w) := by
  have hs : ∀ w, (Instr.sliceAt 23 (.slice ao n c) none (some (.int .i64 n)) (some (.int .i64 n))).run Tryd.prog w = .ok (.slice ao n n) w := fun w => by
    rw [sliceAt_slice Tryd.underlying23]
    have hz : ∀ w, (Go.sizeOf 9).run Tryd.prog w = .ok 1 w := fun w => by first | (simp [go_sem]; done) | (simp [go_sem]; rfl)
    have a1 : ((n : Int) ≤ (c : Int)) := by omega
    cases ao with
    | none => simp [Instr.slice, run_underlying Tryd.underlying23, Instr.sliceBounds, Instr.sliceBound, asIntOf, hz, a1, h]
    | some a => simp [Instr.slice, run_underlying Tryd.underlying23, Instr.sliceBounds, Instr.sliceBound, asIntOf, hz, a1, h, Addr.add]
  go_enter Tryd.func32, Tryd.ntmps32
  go_wp2
  go_ret
  exact ⟨rfl, rfl⟩

abbrev rowEn (ao : Option Addr) (c : Nat) (xs : List En) : HProp := row 41 3 (.slice ao xs.length c) xs.length (xs.flatMap enC)
theorem info_en : elemInfo Tryd.prog 41 = some (some 3, 3, 40) := by kernel_rfl
theorem zs_en : zeroSize Tryd.prog 41 = some 3 := by kernel_rfl
theorem zs_st : zeroSize Tryd.prog 9 = some 1 := by kernel_rfl
def boO (bo : Nat) (ao : Option Addr) (n c : Nat) : HProp := pt bo (.cells #[.slice ao n c] 22)
def boW (bo bw : Nat) : HProp := pt bw (.cells #[.func (.func 31) #[] #[.pointer (some ⟨bo, 0, none⟩), .pointer (some ⟨bw, 0, none⟩)]] 66)
/-- the contract of the walk through a tree, so deep -/
def WalkC (bo bw d : Nat) : Prop := ∀ (t : Tr), Tr.Wf d t → ∀ (kv : Value) (q : List (List UInt8)) (an : Option Addr) (cn : Nat) (lb : List HProp) (pre : List En) (ao : Option Addr) (co : Nat) (w : World), KidsAt lb kv t.kids → q.length ≤ cn → q.length + d ≤ 100 → (∀ x ∈ q, x.length ≤ 600) →
  Knows lb (reads (.slice an q.length cn) q.length (q.map strv)) → pre.length + (entT d q t).length ≤ 1000000 → Ent (boO bo ao pre.length co :: boW bo bw :: rowEn ao co pre :: lb) w →
  Calls Tryd.prog 31 #[nodeV t kv, .slice an q.length cn, .pointer (some ⟨bo, 0, none⟩), .pointer (some ⟨bw, 0, none⟩)] w
    (Ret fun _ w' => ∃ ao' co', Ent (boO bo ao' (pre ++ entT d q t).length co' :: boW bo bw :: rowEn ao' co' (pre ++ entT d q t) :: lb) w')
set_option maxRecDepth 100000 in
theorem walk_none {bo bw : Nat} {t : Tr} (h : t.kids = []) {kv : Value} {an : Option Addr} {n cn : Nat} {lb : List HProp} {L : List HProp} {w : World} (hkv : KidsAt lb kv t.kids) (hE : Ent L w) :
    Calls Tryd.prog 31 #[nodeV t kv, .slice an n cn, .pointer (some ⟨bo, 0, none⟩), .pointer (some ⟨bw, 0, none⟩)] w (Ret fun _ w' => Ent L w') := by
  obtain ⟨td, tb, ks⟩ := t
  obtain rfl : ks = [] := h
  obtain ⟨ao, c, vs, rfl, _⟩ := hkv.open
  simp only [nodeV, Tr.dir, Tr.data, Tr.kids, List.length_nil]
  go_enter Tryd.func31, Tryd.ntmps31
  go_wp2_with (first
    | go_skip
    | ((with_reducible (show Go.wpList _ _ _ (Go.Oper.mk _ (.box _ _) _ _ _ _ :: _) _ _)); refine wpl_box hE rfl rfl rfl ?_; clear hE; intro b4 w hE; simp only [Act.eval, Act.put, List.setIfInBounds_toArray, List.set_cons_zero, List.set_cons_succ, getD_lit, List.getD_cons_succ, List.getD_cons_zero, Value.cells] at hE)
    | ((with_reducible (show Go.wpList _ _ _ (Go.Oper.mk _ (.load 26 _) _ _ _ _ :: _) _ _)); refine wpl_load1 hE 0 rfl rfl rfl rfl (by simp [go_sem]) rfl ?_))
  go_loopw [12] (fun i wr => i = .int .i64 0 ∧ Ent L wr) (fun _ _ => 0)
  case atStart => exact ⟨rfl, hE.tail⟩
  case round =>
    clear hE
    obtain ⟨rfl, hE⟩ := hrel
    go_wp2
    refine bodyPost_ret (results_none rfl _ _ _) rfl ?_
    exact ⟨_, rfl, hE⟩

def WkRel (bo bw d : Nat) (q : List (List UInt8)) (ks : List (List UInt8 × Tr)) (pre : List En) (lb : List HProp) (i : Value) (wr : World) : Prop :=
  ∃ (k : Nat) (ao : Option Addr) (co : Nat) (out : List En), k ≤ ks.length ∧ i = .int .i64 k ∧ out = pre ++ (ks.take k).flatMap (fun x => entOf q x :: entT d (q ++ [x.1]) x.2) ∧ Ent (boO bo ao out.length co :: boW bo bw :: rowEn ao co out :: lb) wr
theorem Ent.dropLast {A B C D : HProp} {l : List HProp} {w : World} (h : Ent (A :: B :: C :: D :: l) w) : Ent (A :: B :: C :: l) w := h.erase 3
set_option maxRecDepth 100000 in
set_option maxHeartbeats 8000000 in
attribute [-go_sem] Instr.loadAt in
theorem walk_step {bo bw d : Nat} (IH : WalkC bo bw d) : WalkC bo bw (d + 1) := by
  intro t hw kv q an cn lb pre ao0 co0 w hkv hcn hqd hq6 hn hbig hE
  obtain ⟨td, tb, ks⟩ := t
  have hk6 : ks.length ≤ 6 := hw.2.2.2.1
  have hwk := hw.2.2.2.2.2
  obtain ⟨ak, ck, vs, rfl, hc, hl, hkk, hks, hone⟩ := hkv.open
  replace hl : vs.length = ks.length := hl
  replace hkk : Knows lb (reads (.slice ak ks.length ck) ks.length (kCs ks vs)) := hkk
  replace hks : ∀ (i : Nat) (h : i < ks.length) (h' : i < vs.length), KidsAt lb vs[i] ks[i].2.kids := hks
  have hent : entT (d + 1) q (.nd td tb ks) = ks.flatMap fun x => entOf q x :: entT d (q ++ [x.1]) x.2 := rfl
  rw [hent] at hbig ⊢
  simp only [nodeV, Tr.dir, Tr.data, Tr.kids] at *
  clear hone hkv hw hent
  unfold boO boW at hE ⊢
  go_enter Tryd.func31, Tryd.ntmps31
  go_wp2_with (first
    | go_skip
    | ((with_reducible (show Go.wpList _ _ _ (Go.Oper.mk _ (.box _ _) _ _ _ _ :: _) _ _)); refine wpl_box hE rfl rfl rfl ?_; clear hE; intro b4 w hE; simp only [Act.eval, Act.put, List.setIfInBounds_toArray, List.set_cons_zero, List.set_cons_succ, getD_lit, List.getD_cons_succ, List.getD_cons_zero, Value.cells] at hE)
    | ((with_reducible (show Go.wpList _ _ _ (Go.Oper.mk _ (.load 26 _) _ _ _ _ :: _) _ _)); refine wpl_load1 hE 0 rfl rfl rfl rfl (by simp [go_sem]) rfl ?_))
  replace hE := hE.tail
  go_loopw [12] (fun i wr => WkRel bo bw d q ks pre lb i wr) (fun i _ => ks.length - (intOf i).toNat)
  case atStart => exact ⟨0, ao0, co0, pre, Nat.zero_le _, rfl, by simp, hE⟩
  case round =>
    clear hE
    obtain ⟨k, ao, co, out, hkn, rfl, hout, hE⟩ := hrel
    by_cases hlt : k < ks.length
    · obtain ⟨b, off, rfl, hz⟩ := kids_at hl (hkk _ hE.tail.tail.tail) hlt
      clear hz
      have hL := SL.hid (show ∀ W, Ent lb W → ∀ j v, (kC ks[k] (vs[k]'(by omega)))[j]? = some v → W.cell? ⟨b, off + k * 4 + j, none⟩ = some v from fun W hW => by
        obtain ⟨b', off', e, h⟩ := kids_at hl (hkk _ hW) hlt
        cases e
        exact h)
      have hkid := hks k hlt (by omega)
      have hwx := hwk _ (List.getElem_mem hlt)
      have htake := List.take_succ_eq_append_getElem hlt
      have hlen2 : out.length + (entOf q ks[k] :: entT d (q ++ [ks[k].1]) ks[k].2).length ≤ 1000000 := by
        have e : ks = ks.take k ++ ks[k] :: ks.drop (k + 1) := by rw [← List.drop_eq_getElem_cons hlt, List.take_append_drop]
        have h2 : ((ks.take k).flatMap (fun x => entOf q x :: entT d (q ++ [x.1]) x.2)).length + (entOf q ks[k] :: entT d (q ++ [ks[k].1]) ks[k].2).length ≤ (ks.flatMap (fun x => entOf q x :: entT d (q ++ [x.1]) x.2)).length := by
          conv => rhs; rw [e, List.flatMap_append, List.flatMap_cons, List.length_append, List.length_append]
          omega
        rw [hout, List.length_append]
        omega
      have hnx := (name_len hwx.1).2
      have Hout := SL.hid (show (out ++ [entOf q ks[k]]) ++ entT d (q ++ [ks[k].1]) ks[k].2 = pre ++ (ks.take (k + 1)).flatMap (fun x => entOf q x :: entT d (q ++ [x.1]) x.2) from by
        rw [htake, List.flatMap_append, hout]
        simp [List.append_assoc])
      obtain ⟨kvp, hkvp⟩ : ∃ x, vs[k]'(by omega) = x := ⟨_, rfl⟩
      rw [hkvp] at hL hkid
      have Hv1 := SL.hid (show kvp.oneCell' = true from by obtain ⟨a1, a2, e⟩ := hkid.slice; rw [e]; rfl)
      clear hkvp htake hout
      generalize ks[k] = x at *
      obtain ⟨xn, xt⟩ := x
      simp only at hkid hwx hnx Hout hlen2
      have Hlen2 := SL.hid hlen2
      have hqx : ∀ y ∈ q ++ [xn], y.length ≤ 600 := fun y hy => by
        rcases List.mem_append.1 hy with h | h
        · exact hq6 y h
        · rw [List.mem_singleton.1 h]; omega
      have Hqx := SL.hid hqx
      have HI := SL.hid (fun (an : Option Addr) (cn : Nat) (lb' : List HProp) (out' : List En) (ao : Option Addr) (co : Nat) (w : World) (hkv : KidsAt lb' kvp xt.kids) (hcn : (q ++ [xn]).length ≤ cn) (hn : Knows lb' (reads (.slice an (q ++ [xn]).length cn) (q ++ [xn]).length ((q ++ [xn]).map strv))) (hb : out'.length + (entT d (q ++ [xn]) xt).length ≤ 1000000) (hE : Ent (boO bo ao out'.length co :: boW bo bw :: rowEn ao co out' :: lb') w) =>
        IH xt hwx.2 kvp (q ++ [xn]) an cn lb' out' ao co w hkv hcn (by simp; omega) hqx hn hb hE)
      have HJ := SL.hid (fun (ao : Option Addr) (c : Nat) (hc : (q ++ [xn]).length ≤ c) (l : List HProp) (w : World) (hE : Ent l w) (hk : Knows l (reads (.slice ao (q ++ [xn]).length c) (q ++ [xn]).length ((q ++ [xn]).map strv))) => Join_any (by simp; omega) hqx hc hE hk)
      have hql : (q ++ [xn]).length = q.length + 1 := by simp
      have hqm : (q ++ [xn]).map strv = q.map strv ++ [strv xn] := by simp
      rw [hql, hqm] at HI HJ
      have HN := SL.hid (show Knows lb (reads (.slice an q.length q.length) q.length (q.map strv)) from fun w h => reads_cap (hn w h) _)
      have Hcn := SL.hid hcn
      have Hql := SL.hid (show q.length ≤ 100 from by omega)
      have hCl := fun w => Clip_any an q.length cn hcn w
      simp only [nodeV] at HI
      generalize hp : joinP (q ++ [xn]) = jp at *
      have Hp := SL.hid hp
      clear hp hql hqm hqx hn hcn hqd hlen2 hwx hbig
      unfold boO boW at HI hE
      have He := SL.hid (show entOf q (xn, xt) = ⟨jp, xt.dir, xt.data⟩ from by rw [entOf]; simp only [Hp.out])
      as_aux_lemma =>
      go_wp2_with (first
        | go_skip
        | ((with_reducible (show Go.wpList _ _ _ (Go.Oper.mk _ (.load 51 _) _ _ _ _ :: _) _ _)); refine wpl_loadC rfl rfl rfl Tryd.isAgg51 Tryd.sizeOf51 (kC (xn, xt) kvp) rfl (fun j v hv => by rw [Addr.add_lit]; exact hL.out _ (hE.suf (by repeat (first | exact List.suffix_refl _ | refine List.IsSuffix.trans ?_ (List.suffix_cons _ _)))) j v hv) ?_)
        | ((with_reducible (show Go.wpList _ _ _ (Go.Oper.mk _ (.alloc 51) _ _ _ _ :: _) _ _)); refine wpl_allocN hE rfl rfl (n := 4) (by kernel_rfl) ?_; clear hE; intro b7 cs w1 hq hE)
        | ((with_reducible (show Go.wpList _ _ _ (Go.Oper.mk _ (.store 51 _ _) _ _ _ _ :: _) _ _)); refine wpl_storeN hE 0 rfl rfl rfl rfl (xs := [.string ⟨xn.toArray⟩, .bool xt.dir, .string ⟨xt.data.toArray⟩, kvp]) rfl Tryd.sizeOf51 rfl (by simp [Value.oneCell']; have := Hv1.out; simpa [Value.oneCell'] using this) hq ?_; clear hE hq; intro w2 hE; simp only [List.set_cons_zero] at hE))
      refine wp_region_held_drew (S := (fun w' => ((Instr.loadAt 9 (.pointer (some ⟨b7, 0, none⟩))).run Tryd.prog w' = .ok (.string ⟨xn.toArray⟩) w'))) (by kernel_rfl) (atVm hE.drew (by repeat (first | exact List.Mem.head _ | refine List.Mem.tail _ ?_)) (by simp [go_sem]) rfl) (fun hS => ?_)
      refine takeW 0 ⟨some 16, .move (.tmp 1), 23, "fold.go:124", #[], none⟩ ?_ (.inl ⟨by rfl, ?_⟩) hS ?_
      rotate_left
      · (intro w hSw; (try dsimp only at hSw); go_simp; (try with_reducible rfl))
      try simp only [Act.put, sb, s0, sz]
      refine takeW 2 ⟨some 18, .fieldAddr 51 (.tmp 7) 0, 0, "fold.go:124", #[], none⟩ ?_ (.inl ⟨by rfl, ?_⟩) hS ?_
      rotate_left
      · (intro w hSw; (try dsimp only at hSw); go_simp; (try with_reducible rfl))
      try simp only [Act.put, sb, s0, sz]
      refine takeW 3 ⟨some 19, .load 9 (.tmp 18), 9, "fold.go:124", #[⟨2, .data⟩], none⟩ ?_ (.inl ⟨by rfl, ?_⟩) hS ?_
      rotate_left
      · (intro w hSw; (try dsimp only at hSw); go_simp; (try with_reducible rfl))
      try simp only [Act.put, sb, s0, sz]
      refine wpAnyH_ready (rs := [1, 4]) (by kernel_rfl) (by simp) ?_
      refine (AllReadyH.cons (o := { dst := some 17, op := Go.Op.call { callee := Go.Callee.value (Go.Operand.func 32), args := #[Go.Operand.tmp 16], argTypes := #[23] }, type := 23, pos := "fold.go:124", after := #[{ on := 0, ground := Go.Ground.data }], guard := none }) rfl (fun K hK => ?_) (AllReadyH.cons (o := { dst := some 20, op := Go.Op.buildSlice 23 1 #[(0, Go.Operand.tmp 19)], type := 23, pos := "fold.go:124", after := #[{ on := 3, ground := Go.Ground.data }], guard := none }) rfl (fun K hK => ?_) AllReadyH.nil))
      focus
        (go_simp; refine (hCl _).mono ?_; rintro e w3 ⟨rfl, rfl⟩)
        refine hK.out _ _ (by first | exact (atVm hB (by repeat (first | exact List.Mem.head _ | refine List.Mem.tail _ ?_)) (by simp [go_sem]) rfl) | exact (atVm hE.drew (by repeat (first | exact List.Mem.head _ | refine List.Mem.tail _ ?_)) (by simp [go_sem]) rfl)) (fun hS => ?_)
        clear hK K
        try simp only [Act.put, sb, s0, sz]
        refine wpAnyH_ready (rs := [4]) (by kernel_rfl) (by simp) ?_
        refine (AllReadyH.cons (o := { dst := some 20, op := Go.Op.buildSlice 23 1 #[(0, Go.Operand.tmp 19)], type := 23, pos := "fold.go:124", after := #[{ on := 3, ground := Go.Ground.data }], guard := none }) rfl (fun K hK => ?_) AllReadyH.nil)
        (go_simp; have hB := hE.drew.alloc (.cells #[.string ⟨xn.toArray⟩] 9))
        refine hK.out _ _ (atVm hB (by repeat (first | exact List.Mem.head _ | refine List.Mem.tail _ ?_)) (by simp [go_sem]) rfl) (fun hS => ?_)
        clear hK K
        try simp only [Act.put, sb, s0, sz]
        refine wpAnyH_ready (rs := [5]) (by kernel_rfl) (by simp) ?_
        refine (AllReadyH.cons (o := { dst := some 21, op := Go.Op.call { callee := Go.Callee.builtin Go.Builtin.append, args := #[Go.Operand.tmp 17, Go.Operand.tmp 20], argTypes := #[23, 23] }, type := 23, pos := "fold.go:124", after := #[{ on := 1, ground := Go.Ground.data }, { on := 4, ground := Go.Ground.data }, { on := 1, ground := Go.Ground.chain }], guard := none }) rfl (fun K hK => ?_) AllReadyH.nil)
        (refine step_appendFull hB rfl (by rfl) (by rfl) (by rfl) Tryd.underlying23 info_str (by decide) (HN.out _ (hB.suf (by repeat (first | exact List.suffix_refl _ | refine List.IsSuffix.trans ?_ (List.suffix_cons _ _))))) (by simp) (m := 1) (news := [strv xn]) (reads_pt hB 0 rfl (off := 0) (fun j u hu => by rw [Nat.zero_add]; simpa [strv] using hu)) rfl (by decide) (by simp [strv, Value.oneCell']) (by have := Hql.out; omega) (by have := Hql.out; omega) ?_; intro aa ca w5 hA)
        refine hK.out _ _ (atVm hA (by repeat (first | exact List.Mem.head _ | refine List.Mem.tail _ ?_)) (by simp [go_sem]) rfl) (fun hS => ?_)
        clear hK K
        try simp only [Act.put, sb, s0, sz]
        refine takeW 6 ⟨some 8, .assign (.tmp 21), 23, "fold.go:124", #[⟨5, .data⟩, ⟨5, .chain⟩, ⟨0, .phase⟩, ⟨1, .phase⟩, ⟨2, .phase⟩, ⟨3, .phase⟩, ⟨4, .phase⟩, ⟨5, .phase⟩], none⟩ ?_ (.inl ⟨by rfl, ?_⟩) hS ?_
        rotate_left
        · (intro w hSw; (try dsimp only at hSw); go_simp; (try with_reducible rfl))
        try simp only [Act.put, sb, s0, sz]
        refine wpAnyH_done (by kernel_rfl) ?_ _
      rotate_right
      focus
        (go_simp; have hB := hE.drew.alloc (.cells #[.string ⟨xn.toArray⟩] 9))
        refine hK.out _ _ (atVm hB (by repeat (first | exact List.Mem.head _ | refine List.Mem.tail _ ?_)) (by simp [go_sem]) rfl) (fun hS => ?_)
        clear hK K
        try simp only [Act.put, sb, s0, sz]
        refine wpAnyH_ready (rs := [1]) (by kernel_rfl) (by simp) ?_
        refine (AllReadyH.cons (o := { dst := some 17, op := Go.Op.call { callee := Go.Callee.value (Go.Operand.func 32), args := #[Go.Operand.tmp 16], argTypes := #[23] }, type := 23, pos := "fold.go:124", after := #[{ on := 0, ground := Go.Ground.data }], guard := none }) rfl (fun K hK => ?_) AllReadyH.nil)
        (go_simp; refine (hCl _).mono ?_; rintro e w3 ⟨rfl, rfl⟩)
        refine hK.out _ _ (by first | exact (atVm hB (by repeat (first | exact List.Mem.head _ | refine List.Mem.tail _ ?_)) (by simp [go_sem]) rfl) | exact (atVm hE.drew (by repeat (first | exact List.Mem.head _ | refine List.Mem.tail _ ?_)) (by simp [go_sem]) rfl)) (fun hS => ?_)
        clear hK K
        try simp only [Act.put, sb, s0, sz]
        refine wpAnyH_ready (rs := [5]) (by kernel_rfl) (by simp) ?_
        refine (AllReadyH.cons (o := { dst := some 21, op := Go.Op.call { callee := Go.Callee.builtin Go.Builtin.append, args := #[Go.Operand.tmp 17, Go.Operand.tmp 20], argTypes := #[23, 23] }, type := 23, pos := "fold.go:124", after := #[{ on := 1, ground := Go.Ground.data }, { on := 4, ground := Go.Ground.data }, { on := 1, ground := Go.Ground.chain }], guard := none }) rfl (fun K hK => ?_) AllReadyH.nil)
        (refine step_appendFull hB rfl (by rfl) (by rfl) (by rfl) Tryd.underlying23 info_str (by decide) (HN.out _ (hB.suf (by repeat (first | exact List.suffix_refl _ | refine List.IsSuffix.trans ?_ (List.suffix_cons _ _))))) (by simp) (m := 1) (news := [strv xn]) (reads_pt hB 0 rfl (off := 0) (fun j u hu => by rw [Nat.zero_add]; simpa [strv] using hu)) rfl (by decide) (by simp [strv, Value.oneCell']) (by have := Hql.out; omega) (by have := Hql.out; omega) ?_; intro aa ca w5 hA)
        refine hK.out _ _ (atVm hA (by repeat (first | exact List.Mem.head _ | refine List.Mem.tail _ ?_)) (by simp [go_sem]) rfl) (fun hS => ?_)
        clear hK K
        try simp only [Act.put, sb, s0, sz]
        refine takeW 6 ⟨some 8, .assign (.tmp 21), 23, "fold.go:124", #[⟨5, .data⟩, ⟨5, .chain⟩, ⟨0, .phase⟩, ⟨1, .phase⟩, ⟨2, .phase⟩, ⟨3, .phase⟩, ⟨4, .phase⟩, ⟨5, .phase⟩], none⟩ ?_ (.inl ⟨by rfl, ?_⟩) hS ?_
        rotate_left
        · (intro w hSw; (try dsimp only at hSw); go_simp; (try with_reducible rfl))
        try simp only [Act.put, sb, s0, sz]
        refine wpAnyH_done (by kernel_rfl) ?_ _
      all_goals
        replace hE := hA.erase 1
        clear hA hB hS
        simp only [List.eraseIdx_cons_succ, List.eraseIdx_cons_zero] at hE
        obtain ⟨g, rfl, hca, _⟩ := hE.rowIs 0 rfl (by omega)
        have Hca := SL.hid hca
        clear hca
        go_wp2_with (first | go_skip)
        refine wp_region_held_drew (S := (fun w' => ((Instr.loadAt 4 (.pointer (some ⟨b7, 1, none⟩))).run Tryd.prog w' = .ok (.bool xt.dir) w') ∧ ((Instr.loadAt 9 (.pointer (some ⟨b7, 2, none⟩))).run Tryd.prog w' = .ok (.string ⟨xt.data.toArray⟩) w'))) (by kernel_rfl) ⟨(atVm hE.drew (by repeat (first | exact List.Mem.head _ | refine List.Mem.tail _ ?_)) (by simp [go_sem]) rfl), (atVm hE.drew (by repeat (first | exact List.Mem.head _ | refine List.Mem.tail _ ?_)) (by simp [go_sem]) rfl)⟩ (fun hS => ?_)
        refine takeW 1 ⟨some 23, .move (.tmp 8), 23, "fold.go:125", #[], none⟩ ?_ (.inl ⟨by rfl, ?_⟩) hS ?_
        rotate_left
        · (intro w hSw; (try dsimp only at hSw); go_simp; (try with_reducible rfl))
        try simp only [Act.put, sb, s0, sz]
        refine takeW 3 ⟨some 25, .fieldAddr 51 (.tmp 7) 1, 0, "fold.go:125", #[], none⟩ ?_ (.inl ⟨by rfl, ?_⟩) hS ?_
        rotate_left
        · (intro w hSw; (try dsimp only at hSw); go_simp; (try with_reducible rfl))
        try simp only [Act.put, sb, s0, sz]
        refine takeW 4 ⟨some 26, .fieldAddr 28 (.tmp 25) 0, 0, "fold.go:125", #[⟨3, .data⟩], none⟩ ?_ (.inl ⟨by rfl, ?_⟩) hS ?_
        rotate_left
        · (intro w hSw; (try dsimp only at hSw); go_simp; (try with_reducible rfl))
        try simp only [Act.put, sb, s0, sz]
        refine takeW 5 ⟨some 27, .load 4 (.tmp 26), 4, "fold.go:125", #[⟨4, .data⟩], none⟩ ?_ (.inl ⟨by rfl, ?_⟩) hS ?_
        rotate_left
        · (intro w hSw; (try dsimp only at hSw); go_simp; (try with_reducible rfl))
        try simp only [Act.put, sb, s0, sz]
        refine takeW 6 ⟨some 28, .fieldAddr 51 (.tmp 7) 1, 0, "fold.go:125", #[], none⟩ ?_ (.inl ⟨by rfl, ?_⟩) hS ?_
        rotate_left
        · (intro w hSw; (try dsimp only at hSw); go_simp; (try with_reducible rfl))
        try simp only [Act.put, sb, s0, sz]
        refine takeW 7 ⟨some 29, .fieldAddr 28 (.tmp 28) 1, 0, "fold.go:125", #[⟨6, .data⟩], none⟩ ?_ (.inl ⟨by rfl, ?_⟩) hS ?_
        rotate_left
        · (intro w hSw; (try dsimp only at hSw); go_simp; (try with_reducible rfl))
        try simp only [Act.put, sb, s0, sz]
        refine takeW 8 ⟨some 30, .load 9 (.tmp 29), 9, "fold.go:125", #[⟨7, .data⟩], none⟩ ?_ (.inl ⟨by rfl, ?_⟩) hS ?_
        rotate_left
        · (intro w hSw; (try dsimp only at hSw); go_simp; (try with_reducible rfl))
        try simp only [Act.put, sb, s0, sz]
        refine wpAnyH_ready (rs := [0, 2]) (by kernel_rfl) (by simp) ?_
        refine (AllReadyH.cons (o := { dst := some 22, op := Go.Op.load 22 (Go.Operand.tmp 2), type := 22, pos := "fold.go:125", after := #[], guard := none }) rfl (fun K hK => ?_) (AllReadyH.cons (o := { dst := some 24, op := Go.Op.call { callee := Go.Callee.value (Go.Operand.func 33), args := #[Go.Operand.tmp 23], argTypes := #[23] }, type := 9, pos := "fold.go:125", after := #[{ on := 1, ground := Go.Ground.data }], guard := none }) rfl (fun K hK => ?_) AllReadyH.nil))
        focus
          (first | refine step_load1 hB 3 rfl (by rfl) (by rfl) (by rfl) (by simp [go_sem]) rfl ?_ | refine step_load1 hJ 2 rfl (by rfl) (by rfl) (by rfl) (by simp [go_sem]) rfl ?_ | refine step_load1 hE.drew 2 rfl (by rfl) (by rfl) (by rfl) (by simp [go_sem]) rfl ?_)
          refine hK.out _ _ (by first | exact ⟨(atVm hB (by repeat (first | exact List.Mem.head _ | refine List.Mem.tail _ ?_)) (by simp [go_sem]) rfl), (atVm hB (by repeat (first | exact List.Mem.head _ | refine List.Mem.tail _ ?_)) (by simp [go_sem]) rfl)⟩ | exact ⟨(atVm hJ (by repeat (first | exact List.Mem.head _ | refine List.Mem.tail _ ?_)) (by simp [go_sem]) rfl), (atVm hJ (by repeat (first | exact List.Mem.head _ | refine List.Mem.tail _ ?_)) (by simp [go_sem]) rfl)⟩ | exact ⟨(atVm hE.drew (by repeat (first | exact List.Mem.head _ | refine List.Mem.tail _ ?_)) (by simp [go_sem]) rfl), (atVm hE.drew (by repeat (first | exact List.Mem.head _ | refine List.Mem.tail _ ?_)) (by simp [go_sem]) rfl)⟩) (fun hS => ?_)
          clear hK K
          try simp only [Act.put, sb, s0, sz]
          refine wpAnyH_ready (rs := [2]) (by kernel_rfl) (by simp) ?_
          refine (AllReadyH.cons (o := { dst := some 24, op := Go.Op.call { callee := Go.Callee.value (Go.Operand.func 33), args := #[Go.Operand.tmp 23], argTypes := #[23] }, type := 9, pos := "fold.go:125", after := #[{ on := 1, ground := Go.Ground.data }], guard := none }) rfl (fun K hK => ?_) AllReadyH.nil)
          (go_simp; refine (HJ.out _ _ Hca.out _ _ hE.drew (fun w h => reads_row h 0 rfl)).mono ?_; rintro e w6 ⟨v, rfl, rfl, hJ⟩)
          refine hK.out _ _ ⟨(atVm hJ (by repeat (first | exact List.Mem.head _ | refine List.Mem.tail _ ?_)) (by simp [go_sem]) rfl), (atVm hJ (by repeat (first | exact List.Mem.head _ | refine List.Mem.tail _ ?_)) (by simp [go_sem]) rfl)⟩ (fun hS => ?_)
          clear hK K
          try simp only [Act.put, sb, s0, sz]
          refine takeW 9 ⟨some 31, .build 41 #[(0, .tmp 24), (1, .tmp 27), (2, .tmp 30)], 41, "fold.go:125", #[⟨2, .data⟩, ⟨5, .data⟩, ⟨8, .data⟩], none⟩ ?_ (.inl ⟨by rfl, ?_⟩) hS ?_
          rotate_left
          · (intro w hSw; (try dsimp only at hSw); go_simp; (try with_reducible rfl))
          try simp only [Act.put, sb, s0, sz]
          refine wpAnyH_ready (rs := [10]) (by kernel_rfl) (by simp) ?_
          refine (AllReadyH.cons (o := { dst := some 32, op := Go.Op.buildSlice 22 1 #[(0, Go.Operand.tmp 31)], type := 22, pos := "fold.go:125", after := #[{ on := 9, ground := Go.Ground.data }], guard := none }) rfl (fun K hK => ?_) AllReadyH.nil)
          (refine step_build1 hJ rfl (by rfl) (xs := enC ⟨jp, xt.dir, xt.data⟩) (by rfl) Tryd.underlying22 zs_en Tryd.sizeOf41 (by decide) (by decide) rfl ?_; intro b9 w7 hB)
          refine hK.out _ _ ⟨(atVm hB (by repeat (first | exact List.Mem.head _ | refine List.Mem.tail _ ?_)) (by simp [go_sem]) rfl), (atVm hB (by repeat (first | exact List.Mem.head _ | refine List.Mem.tail _ ?_)) (by simp [go_sem]) rfl)⟩ (fun hS => ?_)
          clear hK K
          try simp only [Act.put, sb, s0, sz]
          refine wpAnyH_ready (rs := [11]) (by kernel_rfl) (by simp) ?_
          refine (AllReadyH.cons (o := { dst := some 33, op := Go.Op.call { callee := Go.Callee.builtin Go.Builtin.append, args := #[Go.Operand.tmp 22, Go.Operand.tmp 32], argTypes := #[22, 22] }, type := 22, pos := "fold.go:125", after := #[{ on := 0, ground := Go.Ground.data }, { on := 10, ground := Go.Ground.data }, { on := 2, ground := Go.Ground.chain }], guard := none }) rfl (fun K hK => ?_) AllReadyH.nil)
          (refine step_appendG hB 5 rfl rfl (by rfl) (by rfl) (by rfl) Tryd.underlying22 info_en (by decide) (m := 1) (news := enC ⟨jp, xt.dir, xt.data⟩) (reads_pt hB 0 rfl (off := 0) (fun j u hu => by rw [Nat.zero_add, List.getElem?_toArray]; exact hu)) rfl (enC_one _) (by have := Hlen2.out; simp at this; omega) (by have := Hlen2.out; simp at this; omega) ?_; intro ao' c' w8 hC; simp only [List.set_cons_zero, List.set_cons_succ] at hC)
          refine hK.out _ _ ⟨(atVm hC (by repeat (first | exact List.Mem.head _ | refine List.Mem.tail _ ?_)) (by simp [go_sem]) rfl), (atVm hC (by repeat (first | exact List.Mem.head _ | refine List.Mem.tail _ ?_)) (by simp [go_sem]) rfl)⟩ (fun hS => ?_)
          clear hK K
          try simp only [Act.put, sb, s0, sz]
          refine wpAnyH_ready (rs := [12]) (by kernel_rfl) (by simp) ?_
          refine (AllReadyH.cons (o := { dst := none, op := Go.Op.store 22 (Go.Operand.tmp 2) (Go.Operand.tmp 33), type := 0, pos := "fold.go:125", after := #[{ on := 11, ground := Go.Ground.data }, { on := 11, ground := Go.Ground.chain }, { on := 0, ground := Go.Ground.phase }, { on := 1, ground := Go.Ground.phase }, { on := 2, ground := Go.Ground.phase }, { on := 3, ground := Go.Ground.phase }, { on := 4, ground := Go.Ground.phase }, { on := 5, ground := Go.Ground.phase }, { on := 6, ground := Go.Ground.phase }, { on := 7, ground := Go.Ground.phase }, { on := 8, ground := Go.Ground.phase }, { on := 9, ground := Go.Ground.phase }, { on := 10, ground := Go.Ground.phase }, { on := 11, ground := Go.Ground.phase }], guard := none }) rfl (fun K hK => ?_) AllReadyH.nil)
          (refine step_setC hC 3 rfl (by rfl) (by rfl) (by rfl) (v := .slice ao' (out.length + 1) c') (by rfl) (by first | (simp [go_sem]; done) | (simp [go_sem]; rfl)) rfl rfl (by simp) ?_; intro w9 hD; simp only [List.set_cons_zero, List.set_cons_succ] at hD)
          refine hK.out _ _ ⟨(atVm hD (by repeat (first | exact List.Mem.head _ | refine List.Mem.tail _ ?_)) (by simp [go_sem]) rfl), (atVm hD (by repeat (first | exact List.Mem.head _ | refine List.Mem.tail _ ?_)) (by simp [go_sem]) rfl)⟩ (fun hS => ?_)
          clear hK K
          try simp only [Act.put, sb, s0, sz]
          refine wpAnyH_done (by kernel_rfl) ?_ _
        rotate_right
        focus
          (go_simp; refine (HJ.out _ _ Hca.out _ _ hE.drew (fun w h => reads_row h 0 rfl)).mono ?_; rintro e w6 ⟨v, rfl, rfl, hJ⟩)
          refine hK.out _ _ ⟨(atVm hJ (by repeat (first | exact List.Mem.head _ | refine List.Mem.tail _ ?_)) (by simp [go_sem]) rfl), (atVm hJ (by repeat (first | exact List.Mem.head _ | refine List.Mem.tail _ ?_)) (by simp [go_sem]) rfl)⟩ (fun hS => ?_)
          clear hK K
          try simp only [Act.put, sb, s0, sz]
          refine takeW 9 ⟨some 31, .build 41 #[(0, .tmp 24), (1, .tmp 27), (2, .tmp 30)], 41, "fold.go:125", #[⟨2, .data⟩, ⟨5, .data⟩, ⟨8, .data⟩], none⟩ ?_ (.inl ⟨by rfl, ?_⟩) hS ?_
          rotate_left
          · (intro w hSw; (try dsimp only at hSw); go_simp; (try with_reducible rfl))
          try simp only [Act.put, sb, s0, sz]
          refine wpAnyH_ready (rs := [0, 10]) (by kernel_rfl) (by simp) ?_
          refine (AllReadyH.cons (o := { dst := some 22, op := Go.Op.load 22 (Go.Operand.tmp 2), type := 22, pos := "fold.go:125", after := #[], guard := none }) rfl (fun K hK => ?_) (AllReadyH.cons (o := { dst := some 32, op := Go.Op.buildSlice 22 1 #[(0, Go.Operand.tmp 31)], type := 22, pos := "fold.go:125", after := #[{ on := 9, ground := Go.Ground.data }], guard := none }) rfl (fun K hK => ?_) AllReadyH.nil))
          focus
            (first | refine step_load1 hB 3 rfl (by rfl) (by rfl) (by rfl) (by simp [go_sem]) rfl ?_ | refine step_load1 hJ 2 rfl (by rfl) (by rfl) (by rfl) (by simp [go_sem]) rfl ?_ | refine step_load1 hE.drew 2 rfl (by rfl) (by rfl) (by rfl) (by simp [go_sem]) rfl ?_)
            refine hK.out _ _ (by first | exact ⟨(atVm hB (by repeat (first | exact List.Mem.head _ | refine List.Mem.tail _ ?_)) (by simp [go_sem]) rfl), (atVm hB (by repeat (first | exact List.Mem.head _ | refine List.Mem.tail _ ?_)) (by simp [go_sem]) rfl)⟩ | exact ⟨(atVm hJ (by repeat (first | exact List.Mem.head _ | refine List.Mem.tail _ ?_)) (by simp [go_sem]) rfl), (atVm hJ (by repeat (first | exact List.Mem.head _ | refine List.Mem.tail _ ?_)) (by simp [go_sem]) rfl)⟩ | exact ⟨(atVm hE.drew (by repeat (first | exact List.Mem.head _ | refine List.Mem.tail _ ?_)) (by simp [go_sem]) rfl), (atVm hE.drew (by repeat (first | exact List.Mem.head _ | refine List.Mem.tail _ ?_)) (by simp [go_sem]) rfl)⟩) (fun hS => ?_)
            clear hK K
            try simp only [Act.put, sb, s0, sz]
            refine wpAnyH_ready (rs := [10]) (by kernel_rfl) (by simp) ?_
            refine (AllReadyH.cons (o := { dst := some 32, op := Go.Op.buildSlice 22 1 #[(0, Go.Operand.tmp 31)], type := 22, pos := "fold.go:125", after := #[{ on := 9, ground := Go.Ground.data }], guard := none }) rfl (fun K hK => ?_) AllReadyH.nil)
            (refine step_build1 hJ rfl (by rfl) (xs := enC ⟨jp, xt.dir, xt.data⟩) (by rfl) Tryd.underlying22 zs_en Tryd.sizeOf41 (by decide) (by decide) rfl ?_; intro b9 w7 hB)
            refine hK.out _ _ ⟨(atVm hB (by repeat (first | exact List.Mem.head _ | refine List.Mem.tail _ ?_)) (by simp [go_sem]) rfl), (atVm hB (by repeat (first | exact List.Mem.head _ | refine List.Mem.tail _ ?_)) (by simp [go_sem]) rfl)⟩ (fun hS => ?_)
            clear hK K
            try simp only [Act.put, sb, s0, sz]
            refine wpAnyH_ready (rs := [11]) (by kernel_rfl) (by simp) ?_
            refine (AllReadyH.cons (o := { dst := some 33, op := Go.Op.call { callee := Go.Callee.builtin Go.Builtin.append, args := #[Go.Operand.tmp 22, Go.Operand.tmp 32], argTypes := #[22, 22] }, type := 22, pos := "fold.go:125", after := #[{ on := 0, ground := Go.Ground.data }, { on := 10, ground := Go.Ground.data }, { on := 2, ground := Go.Ground.chain }], guard := none }) rfl (fun K hK => ?_) AllReadyH.nil)
            (refine step_appendG hB 5 rfl rfl (by rfl) (by rfl) (by rfl) Tryd.underlying22 info_en (by decide) (m := 1) (news := enC ⟨jp, xt.dir, xt.data⟩) (reads_pt hB 0 rfl (off := 0) (fun j u hu => by rw [Nat.zero_add, List.getElem?_toArray]; exact hu)) rfl (enC_one _) (by have := Hlen2.out; simp at this; omega) (by have := Hlen2.out; simp at this; omega) ?_; intro ao' c' w8 hC; simp only [List.set_cons_zero, List.set_cons_succ] at hC)
            refine hK.out _ _ ⟨(atVm hC (by repeat (first | exact List.Mem.head _ | refine List.Mem.tail _ ?_)) (by simp [go_sem]) rfl), (atVm hC (by repeat (first | exact List.Mem.head _ | refine List.Mem.tail _ ?_)) (by simp [go_sem]) rfl)⟩ (fun hS => ?_)
            clear hK K
            try simp only [Act.put, sb, s0, sz]
            refine wpAnyH_ready (rs := [12]) (by kernel_rfl) (by simp) ?_
            refine (AllReadyH.cons (o := { dst := none, op := Go.Op.store 22 (Go.Operand.tmp 2) (Go.Operand.tmp 33), type := 0, pos := "fold.go:125", after := #[{ on := 11, ground := Go.Ground.data }, { on := 11, ground := Go.Ground.chain }, { on := 0, ground := Go.Ground.phase }, { on := 1, ground := Go.Ground.phase }, { on := 2, ground := Go.Ground.phase }, { on := 3, ground := Go.Ground.phase }, { on := 4, ground := Go.Ground.phase }, { on := 5, ground := Go.Ground.phase }, { on := 6, ground := Go.Ground.phase }, { on := 7, ground := Go.Ground.phase }, { on := 8, ground := Go.Ground.phase }, { on := 9, ground := Go.Ground.phase }, { on := 10, ground := Go.Ground.phase }, { on := 11, ground := Go.Ground.phase }], guard := none }) rfl (fun K hK => ?_) AllReadyH.nil)
            (refine step_setC hC 3 rfl (by rfl) (by rfl) (by rfl) (v := .slice ao' (out.length + 1) c') (by rfl) (by first | (simp [go_sem]; done) | (simp [go_sem]; rfl)) rfl rfl (by simp) ?_; intro w9 hD; simp only [List.set_cons_zero, List.set_cons_succ] at hD)
            refine hK.out _ _ ⟨(atVm hD (by repeat (first | exact List.Mem.head _ | refine List.Mem.tail _ ?_)) (by simp [go_sem]) rfl), (atVm hD (by repeat (first | exact List.Mem.head _ | refine List.Mem.tail _ ?_)) (by simp [go_sem]) rfl)⟩ (fun hS => ?_)
            clear hK K
            try simp only [Act.put, sb, s0, sz]
            refine wpAnyH_done (by kernel_rfl) ?_ _
          rotate_right
          focus
            (refine step_build1 hJ rfl (by rfl) (xs := enC ⟨jp, xt.dir, xt.data⟩) (by rfl) Tryd.underlying22 zs_en Tryd.sizeOf41 (by decide) (by decide) rfl ?_; intro b9 w7 hB)
            refine hK.out _ _ ⟨(atVm hB (by repeat (first | exact List.Mem.head _ | refine List.Mem.tail _ ?_)) (by simp [go_sem]) rfl), (atVm hB (by repeat (first | exact List.Mem.head _ | refine List.Mem.tail _ ?_)) (by simp [go_sem]) rfl)⟩ (fun hS => ?_)
            clear hK K
            try simp only [Act.put, sb, s0, sz]
            refine wpAnyH_ready (rs := [0]) (by kernel_rfl) (by simp) ?_
            refine (AllReadyH.cons (o := { dst := some 22, op := Go.Op.load 22 (Go.Operand.tmp 2), type := 22, pos := "fold.go:125", after := #[], guard := none }) rfl (fun K hK => ?_) AllReadyH.nil)
            (first | refine step_load1 hB 3 rfl (by rfl) (by rfl) (by rfl) (by simp [go_sem]) rfl ?_ | refine step_load1 hJ 2 rfl (by rfl) (by rfl) (by rfl) (by simp [go_sem]) rfl ?_ | refine step_load1 hE.drew 2 rfl (by rfl) (by rfl) (by rfl) (by simp [go_sem]) rfl ?_)
            refine hK.out _ _ (by first | exact ⟨(atVm hB (by repeat (first | exact List.Mem.head _ | refine List.Mem.tail _ ?_)) (by simp [go_sem]) rfl), (atVm hB (by repeat (first | exact List.Mem.head _ | refine List.Mem.tail _ ?_)) (by simp [go_sem]) rfl)⟩ | exact ⟨(atVm hJ (by repeat (first | exact List.Mem.head _ | refine List.Mem.tail _ ?_)) (by simp [go_sem]) rfl), (atVm hJ (by repeat (first | exact List.Mem.head _ | refine List.Mem.tail _ ?_)) (by simp [go_sem]) rfl)⟩ | exact ⟨(atVm hE.drew (by repeat (first | exact List.Mem.head _ | refine List.Mem.tail _ ?_)) (by simp [go_sem]) rfl), (atVm hE.drew (by repeat (first | exact List.Mem.head _ | refine List.Mem.tail _ ?_)) (by simp [go_sem]) rfl)⟩) (fun hS => ?_)
            clear hK K
            try simp only [Act.put, sb, s0, sz]
            refine wpAnyH_ready (rs := [11]) (by kernel_rfl) (by simp) ?_
            refine (AllReadyH.cons (o := { dst := some 33, op := Go.Op.call { callee := Go.Callee.builtin Go.Builtin.append, args := #[Go.Operand.tmp 22, Go.Operand.tmp 32], argTypes := #[22, 22] }, type := 22, pos := "fold.go:125", after := #[{ on := 0, ground := Go.Ground.data }, { on := 10, ground := Go.Ground.data }, { on := 2, ground := Go.Ground.chain }], guard := none }) rfl (fun K hK => ?_) AllReadyH.nil)
            (refine step_appendG hB 5 rfl rfl (by rfl) (by rfl) (by rfl) Tryd.underlying22 info_en (by decide) (m := 1) (news := enC ⟨jp, xt.dir, xt.data⟩) (reads_pt hB 0 rfl (off := 0) (fun j u hu => by rw [Nat.zero_add, List.getElem?_toArray]; exact hu)) rfl (enC_one _) (by have := Hlen2.out; simp at this; omega) (by have := Hlen2.out; simp at this; omega) ?_; intro ao' c' w8 hC; simp only [List.set_cons_zero, List.set_cons_succ] at hC)
            refine hK.out _ _ ⟨(atVm hC (by repeat (first | exact List.Mem.head _ | refine List.Mem.tail _ ?_)) (by simp [go_sem]) rfl), (atVm hC (by repeat (first | exact List.Mem.head _ | refine List.Mem.tail _ ?_)) (by simp [go_sem]) rfl)⟩ (fun hS => ?_)
            clear hK K
            try simp only [Act.put, sb, s0, sz]
            refine wpAnyH_ready (rs := [12]) (by kernel_rfl) (by simp) ?_
            refine (AllReadyH.cons (o := { dst := none, op := Go.Op.store 22 (Go.Operand.tmp 2) (Go.Operand.tmp 33), type := 0, pos := "fold.go:125", after := #[{ on := 11, ground := Go.Ground.data }, { on := 11, ground := Go.Ground.chain }, { on := 0, ground := Go.Ground.phase }, { on := 1, ground := Go.Ground.phase }, { on := 2, ground := Go.Ground.phase }, { on := 3, ground := Go.Ground.phase }, { on := 4, ground := Go.Ground.phase }, { on := 5, ground := Go.Ground.phase }, { on := 6, ground := Go.Ground.phase }, { on := 7, ground := Go.Ground.phase }, { on := 8, ground := Go.Ground.phase }, { on := 9, ground := Go.Ground.phase }, { on := 10, ground := Go.Ground.phase }, { on := 11, ground := Go.Ground.phase }], guard := none }) rfl (fun K hK => ?_) AllReadyH.nil)
            (refine step_setC hC 3 rfl (by rfl) (by rfl) (by rfl) (v := .slice ao' (out.length + 1) c') (by rfl) (by first | (simp [go_sem]; done) | (simp [go_sem]; rfl)) rfl rfl (by simp) ?_; intro w9 hD; simp only [List.set_cons_zero, List.set_cons_succ] at hD)
            refine hK.out _ _ ⟨(atVm hD (by repeat (first | exact List.Mem.head _ | refine List.Mem.tail _ ?_)) (by simp [go_sem]) rfl), (atVm hD (by repeat (first | exact List.Mem.head _ | refine List.Mem.tail _ ?_)) (by simp [go_sem]) rfl)⟩ (fun hS => ?_)
            clear hK K
            try simp only [Act.put, sb, s0, sz]
            refine wpAnyH_done (by kernel_rfl) ?_ _
        all_goals
          clear hC hB hJ hE hS
          go_wp2_with (first
            | go_skip
            | ((with_reducible (show Go.wpList _ _ _ (Go.Oper.mk _ (.load 28 _) _ _ _ _ :: _) _ _)); refine wpl_loadA hD 2 rfl rfl rfl (off := 1) rfl Tryd.isAgg28 Tryd.sizeOf28 [.bool xt.dir, .string ⟨xt.data.toArray⟩, kvp] rfl (fun j hj => by match j, hj with | 0, _ => rfl | 1, _ => rfl | 2, _ => rfl) ?_)
            | ((with_reducible (show Go.wpList _ _ _ (Go.Oper.mk _ (.load _ (.tmp 3)) _ _ _ _ :: _) _ _)); refine wpl_load1 hD 4 rfl rfl rfl rfl (by simp [go_sem]) rfl ?_))
          have H := HI.out (some ⟨g, 0, none⟩) ca (row 9 1 (.slice (some ⟨g, 0, none⟩) (q.length + 1) ca) (q.length + 1) (q.map strv ++ [strv xn]) :: lb) (out ++ [entOf q (xn, xt)]) ao' c' _ (hkid.suf (List.suffix_cons _ _)) Hca.out (fun w h => reads_row h 0 rfl) (by have := Hlen2.out; simp at this ⊢; omega) (by have h := ((((hD.erase 0).erase 1).front 3 rfl).front 3 rfl).front 3 rfl; have e1 : (out ++ [entOf q (xn, xt)]).length = out.length + 1 := (by simp); have e2 : (out ++ [entOf q (xn, xt)]).flatMap enC = out.flatMap enC ++ enC ⟨jp, xt.dir, xt.data⟩ := (by rw [He.out]; simp); simp only [rowEn, e1, e2]; exact h)
          refine H.mono ?_
          clear H hD
          rintro e w10 ⟨v, rfl, ao2, co2, hF⟩
          go_wp2
          go_roundw
          case rel => exact ⟨k + 1, ao2, co2, _, hlt, by simp, Hout.out, Ent.dropLast hF⟩
          case measure => simp [intOf]; omega
    · obtain rfl : k = ks.length := by omega
      rw [List.take_length] at hout
      have Ho := SL.hid hout
      clear hout
      go_wp2
      refine bodyPost_ret (results_none rfl _ _ _) rfl ?_
      refine ⟨_, rfl, ao, co, ?_⟩
      rw [← Ho.out]
      exact hE
end Go.Proofs.YtjmllpgmbaoebaaDoor
namespace Go.Proofs.YtjmllpgmbaoebaaDoor
open Go.RowKit Go.SL

theorem walk_all (bo bw : Nat) : ∀ d, WalkC bo bw d
  | 0 => by
    intro t hw kv q an cn lb pre ao co w hkv hcn hqd hq6 hn hbig hE
    have hz : t.kids = [] := by cases t; exact hw.1
    refine (walk_none hz hkv hE).mono ?_
    rintro e w' ⟨v, rfl, h⟩
    refine ⟨v, rfl, ao, co, ?_⟩
    rw [entT_file hz, List.append_nil]
    exact h
  | d + 1 => walk_step (walk_all bo bw d)
set_option maxRecDepth 100000 in
set_option maxHeartbeats 2000000 in
attribute [-go_sem] Instr.loadAt in
theorem Entries_any {d : Nat} {t : Tr} (hw : Tr.Wf d t) (hd : d ≤ 100) {kv : Value} {l : List HProp} (hkv : KidsAt l kv t.kids) (hb : (entT d [] t).length ≤ 1000000) {w : World} (hE : Ent l w) :
    Calls Tryd.prog 13 #[nodeV t kv] w (Ret fun v w' => ∃ ao c m, v = .slice ao (entT d [] t).length c ∧ Ent (rowEn ao c (entT d [] t) :: (m ++ l)) w') := by
  have HW := SL.hid (fun (bo bw : Nat) (lb : List HProp) (w : World) (hkv : KidsAt lb kv t.kids) (hE : Ent (boO bo none 0 0 :: boW bo bw :: rowEn none 0 [] :: lb) w) =>
    walk_all bo bw d t hw kv [] none 0 lb [] none 0 w hkv (Nat.zero_le _) (by simpa using hd) (by simp) (fun _ _ => reads_nil 0 0 rfl _) (by simpa using hb) hE)
  simp only [List.length_nil, List.nil_append, nodeV] at HW
  unfold nodeV
  unfold boO boW at HW
  clear hb hw
  generalize entT d [] t = es at *
  go_enter Tryd.func13, Tryd.ntmps13
  go_wp2_with (first
    | go_skip
    | ((with_reducible (show Go.wpList _ _ _ (Go.Oper.mk _ (.box _ _) _ _ _ _ :: _) _ _)); refine wpl_box hE rfl rfl rfl ?_; clear hE; intro b1 w hE; simp only [Act.eval, Act.put, List.setIfInBounds_toArray, List.set_cons_zero, List.set_cons_succ, getD_lit, List.getD_cons_succ, List.getD_cons_zero, Value.cells] at hE)
    | ((with_reducible (show Go.wpList _ _ _ (Go.Oper.mk _ (.alloc 22) _ _ _ _ :: _) _ _)); refine wpl_alloc hE rfl rfl (by simp [go_sem]; rfl) ?_; clear hE; intro b3 w hE; simp only [Act.eval, Act.put, List.setIfInBounds_toArray, List.set_cons_zero, List.set_cons_succ, getD_lit, List.getD_cons_succ, List.getD_cons_zero, Value.cells] at hE)
    | ((with_reducible (show Go.wpList _ _ _ (Go.Oper.mk _ (.alloc 66) _ _ _ _ :: _) _ _)); refine wpl_alloc hE rfl rfl (by simp [go_sem]; rfl) ?_; clear hE; intro b4 w hE; simp only [Act.eval, Act.put, List.setIfInBounds_toArray, List.set_cons_zero, List.set_cons_succ, getD_lit, List.getD_cons_succ, List.getD_cons_zero, Value.cells] at hE)
    | ((with_reducible (show Go.wpList _ _ _ (Go.Oper.mk _ (.store _ _ _) _ _ _ _ :: _) _ _)); refine wpl_st1 hE 0 rfl rfl rfl rfl rfl (by first | (simp [go_sem]; done) | (simp [go_sem]; rfl)) rfl rfl (by simp) ?_; clear hE; intro w hE; simp only [Act.eval, Act.put, List.setIfInBounds_toArray, List.set_cons_zero, List.set_cons_succ, getD_lit, List.getD_cons_succ, List.getD_cons_zero, Value.cells] at hE)
    | ((with_reducible (show Go.wpList _ _ _ (Go.Oper.mk _ (.load 28 _) _ _ _ _ :: _) _ _)); refine wpl_loadA hE 2 rfl rfl rfl (off := 0) rfl Tryd.isAgg28 Tryd.sizeOf28 [.bool t.dir, .string ⟨t.data.toArray⟩, kv] rfl (fun j hj => by match j, hj with | 0, _ => rfl | 1, _ => rfl | 2, _ => rfl) ?_)
    | ((with_reducible (show Go.wpList _ _ _ (Go.Oper.mk _ (.load 66 _) _ _ _ _ :: _) _ _)); refine wpl_load1 hE 0 rfl rfl rfl rfl (by simp [go_sem]) rfl ?_))
  replace hE := ((hE.nil 41 3).front 1 rfl).front 2 rfl
  simp only [List.eraseIdx_cons_succ, List.eraseIdx_cons_zero] at hE
  refine (HW.out b3 b4 (pt b1 (.cells #[.bool t.dir, .string ⟨t.data.toArray⟩, kv] 28) :: l) _ (hkv.suf (List.suffix_cons _ _)) hE).mono ?_
  clear hE
  rintro e w9 ⟨v, rfl, ao, co, hE⟩
  go_wp2_with (first
    | go_skip
    | ((with_reducible (show Go.wpList _ _ _ (Go.Oper.mk _ (.load _ (.tmp 3)) _ _ _ _ :: _) _ _)); refine wpl_load1 hE 0 rfl rfl rfl rfl (by simp [go_sem]) rfl ?_))
  go_ret
  exact ⟨_, rfl, ao, co, [_, _, _], rfl, hE.front 2 rfl⟩
end Go.Proofs.YtjmllpgmbaoebaaDoor
namespace Go.Proofs.YtjmllpgmbaoebaaDoor
open Go.RowKit Go.SL

theorem eqEn (x : En) (w : World) : (Op.equalIn 10000 41 (.agg #[.string ⟨x.path.toArray⟩, .bool x.dir, .string ⟨x.data.toArray⟩]) (.agg #[.string ⟨x.path.toArray⟩, .bool x.dir, .string ⟨x.data.toArray⟩])).run Tryd.prog w = .ok true w := by
  have h := run_equalIn_agg (P := Tryd.prog) (w := w) 9999 41 #[.string ⟨x.path.toArray⟩, .bool x.dir, .string ⟨x.data.toArray⟩] #[.string ⟨x.path.toArray⟩, .bool x.dir, .string ⟨x.data.toArray⟩] (by kernel_rfl) (by kernel_rfl)
  refine h.trans ?_
  simp [go_sem]
/-- an entry of a row, read whole and in part -/
theorem load_en {b off c : Nat} {xs : List En} {w : World} (hr : reads (.slice (some ⟨b, off, none⟩) xs.length c) xs.length (xs.flatMap enC) w) {k : Nat} (hk : k < xs.length) :
    (Instr.loadAt 41 (.pointer (some ⟨b, off + k * 3, none⟩))).run Tryd.prog w = .ok (.agg #[.string ⟨xs[k].path.toArray⟩, .bool xs[k].dir, .string ⟨xs[k].data.toArray⟩]) w ∧
    (Instr.loadAt 9 (.pointer (some ⟨b, off + k * 3, none⟩))).run Tryd.prog w = .ok (.string ⟨xs[k].path.toArray⟩) w ∧
    (Instr.loadAt 4 (.pointer (some ⟨b, off + k * 3 + 1, none⟩))).run Tryd.prog w = .ok (.bool xs[k].dir) w ∧
    (Instr.loadAt 9 (.pointer (some ⟨b, off + k * 3 + 2, none⟩))).run Tryd.prog w = .ok (.string ⟨xs[k].data.toArray⟩) w := by
  obtain ⟨b', off', e, h⟩ := en_at hr hk
  cases e
  exact ⟨atCells Tryd.isAgg41 Tryd.sizeOf41 (enC xs[k]) rfl (fun j v hv => by rw [Addr.add_lit]; exact h j v hv), atCell (h 0 _ rfl) (by simp [go_sem]), atCell (h 1 _ rfl) (by simp [go_sem]), atCell (h 2 _ rfl) (by simp [go_sem])⟩
def GrRel (es : List En) (l : List HProp) (i : Value) (wr : World) : Prop :=
  ∃ k : Nat, k ≤ es.length ∧ i = .int .i64 k ∧ (∀ x ∈ es.take k, x.path.length ≤ 200 ∧ x.data.length ≤ 9000) ∧ Ent l wr
/-- is a row of entries too great for the law? -/
def great (es : List En) : Bool := decide (100 < es.length) || es.any fun x => decide (200 < x.path.length) || decide (9000 < x.data.length)
theorem great_not {es : List En} : great es = false ↔ es.length ≤ 100 ∧ ∀ x ∈ es, x.path.length ≤ 200 ∧ x.data.length ≤ 9000 := by
  simp only [great, Bool.or_eq_false_iff, decide_eq_false_iff_not, List.any_eq_false, Nat.not_lt, Bool.not_eq_true]
def GrPost (es : List En) (l : List HProp) (v : Value) (w' : World) : Prop := v = .bool (great es) ∧ Ent l w'
theorem GrPost.mk {es : List En} {l : List HProp} {w' : World} (b : Bool) (h : Ent l w') (h2 : great es = b) : GrPost es l (.bool b) w' := ⟨by rw [h2], h⟩
set_option maxRecDepth 100000 in
set_option maxHeartbeats 2000000 in
attribute [-go_sem] Instr.loadAt in
theorem Great_any {es : List En} {ao : Option Addr} {c : Nat} {l : List HProp} {w : World} (hk : Knows l (reads (.slice ao es.length c) es.length (es.flatMap enC))) (hE : Ent l w) :
    Calls Tryd.prog 8 #[.slice ao es.length c] w (Ret (GrPost es l)) := by
  cases h100 : decide ((100 : Int) < (es.length : Int)) with
  | true =>
    go_enter Tryd.func8, Tryd.ntmps8
    go_wp2
    refine bodyPost_ret (results_tmp rfl _ _ _) rfl ?_
    exact ⟨_, rfl, .mk true hE (by have := of_decide_eq_true h100; rw [great, decide_eq_true (by omega)]; rfl)⟩
  | false =>
    have hle : es.length ≤ 100 := by have := of_decide_eq_false h100; omega
    have Hle := SL.hid hle
    go_enter Tryd.func8, Tryd.ntmps8
    go_wp2
    clear h100
    go_loopw [3] (fun i wr => GrRel es l i wr) (fun i _ => es.length - (intOf i).toNat)
    case atStart => exact ⟨0, Nat.zero_le _, rfl, by simp, hE⟩
    case round =>
      clear hE
      obtain ⟨k, hkn, rfl, hin, hE⟩ := hrel
      have Hin := SL.hid hin
      clear hin
      by_cases hlt : k < es.length
      · obtain ⟨b, off, rfl, hz⟩ := en_at (hk _ hE) hlt
        clear hz
        have htk := SL.hid (List.take_succ_eq_append_getElem hlt)
        obtain ⟨hl0, hl1, hl2, hl3⟩ := load_en (hk _ hE) hlt
        clear hl0 hl2
        have Hmem := SL.hid (List.getElem_mem hlt)
        generalize es[k] = x at *
        obtain ⟨xp, xd, xb⟩ := x
        cases hp : decide ((200 : Int) < (xp.length : Int)) with
        | true =>
          go_wp2
          refine bodyPost_ret (results_tmp rfl _ _ _) rfl ?_
          exact ⟨_, rfl, .mk true hE (eq_true_of_ne_false fun h => by have := (great_not.1 h).2 _ Hmem.out; have := of_decide_eq_true hp; simp only at *; omega)⟩
        | false =>
          cases hd : decide ((9000 : Int) < (xb.length : Int)) with
          | true =>
            go_wp2
            refine bodyPost_ret (results_tmp rfl _ _ _) rfl ?_
            exact ⟨_, rfl, .mk true hE (eq_true_of_ne_false fun h => by have := (great_not.1 h).2 _ Hmem.out; have := of_decide_eq_true hd; simp only at *; omega)⟩
          | false =>
            go_wp2
            go_roundw
            case rel =>
              refine ⟨k + 1, hlt, by simp, ?_, hE⟩
              rw [htk.out]
              intro y hy
              rcases List.mem_append.1 hy with h | h
              · exact Hin.out y h
              · rw [List.mem_singleton.1 h]
                have := of_decide_eq_false hp
                have := of_decide_eq_false hd
                exact ⟨by simp only; omega, by simp only; omega⟩
            case measure => simp [intOf]; omega
      · obtain rfl : k = es.length := by omega
        go_wp2
        refine bodyPost_ret (results_tmp rfl _ _ _) rfl ?_
        exact ⟨_, rfl, .mk false hE (great_not.2 ⟨Hle.out, by have := Hin.out; rwa [List.take_length] at this⟩)⟩
set_option maxRecDepth 100000 in
set_option maxHeartbeats 2000000 in
attribute [-go_sem] Instr.loadAt Go.run_equalIn_agg in
theorem Row_same {es : List En} (hn : es.length ≤ 1000000) {ao bo : Option Addr} {c d : Nat} {l : List HProp} {w : World} (hk : Knows l (reads (.slice ao es.length c) es.length (es.flatMap enC))) (hk2 : Knows l (reads (.slice bo es.length d) es.length (es.flatMap enC))) (hE : Ent l w) :
    Calls Tryd.prog 12 #[.slice ao es.length c, .slice bo es.length d] w (Ret fun v w' => v = .bool true ∧ Ent l w') := by
  go_enter Tryd.func12, Tryd.ntmps12
  go_wp2
  go_loopw [5] (fun i wr => CntRel es.length l i wr) (fun i _ => es.length - (intOf i).toNat)
  case atStart => exact ⟨0, Nat.zero_le _, rfl, hE⟩
  case round =>
    clear hE
    obtain ⟨k, hkl, rfl, hE⟩ := hrel
    by_cases hlt : k < es.length
    · obtain ⟨b1, o1, rfl, hz⟩ := en_at (hk _ hE) hlt
      obtain ⟨b2, o2, rfl, hz2⟩ := en_at (hk2 _ hE) hlt
      clear hz hz2
      have f1 := SL.hid (show ∀ w, Ent l w → _ from fun w h => (load_en (hk w h) hlt).1)
      have f2 := SL.hid (show ∀ w, Ent l w → _ from fun w h => (load_en (hk2 w h) hlt).1)
      have hcm := fun w => eqEn es[k] w
      generalize es[k] = x at f1 f2 hcm
      obtain ⟨x1, x2, x3⟩ := x
      go_wp2
      refine wp_region_held_drew (S := (fun w' => ((Instr.loadAt 41 (.pointer (some ⟨b1, o1 + k * 3, none⟩))).run Tryd.prog w' = .ok (.agg #[.string ⟨x1.toArray⟩, .bool x2, .string ⟨x3.toArray⟩]) w') ∧ ((Instr.loadAt 41 (.pointer (some ⟨b2, o2 + k * 3, none⟩))).run Tryd.prog w' = .ok (.agg #[.string ⟨x1.toArray⟩, .bool x2, .string ⟨x3.toArray⟩]) w'))) (by kernel_rfl) ⟨(f1.out _ hE.drew), (f2.out _ hE.drew)⟩ (fun hS => ?_)
      refine takeW 0 ⟨some 17, .move (.tmp 0), 22, "law.go:40", #[], none⟩ ?_ (.inl ⟨by rfl, ?_⟩) hS ?_
      rotate_left
      · (intro w hSw; (try dsimp only at hSw); go_simp; (try with_reducible rfl))
      try simp only [Act.put, sb, s0, sz]
      refine takeW 1 ⟨some 18, .move (.tmp 5), 3, "law.go:40", #[], none⟩ ?_ (.inl ⟨by rfl, ?_⟩) hS ?_
      rotate_left
      · (intro w hSw; (try dsimp only at hSw); go_simp; (try with_reducible rfl))
      try simp only [Act.put, sb, s0, sz]
      refine takeW 2 ⟨some 19, .indexAddr 22 (.tmp 17) (.tmp 18), 0, "law.go:40", #[⟨0, .data⟩, ⟨1, .data⟩], none⟩ ?_ (.inl ⟨by rfl, ?_⟩) hS ?_
      rotate_left
      · (intro w hSw; (try dsimp only at hSw); go_simp; (try with_reducible rfl))
      try simp only [Act.put, sb, s0, sz]
      refine takeW 3 ⟨some 20, .load 41 (.tmp 19), 41, "law.go:40", #[⟨2, .data⟩], none⟩ ?_ (.inl ⟨by rfl, ?_⟩) hS ?_
      rotate_left
      · (intro w hSw; (try dsimp only at hSw); go_simp; (try with_reducible rfl))
      try simp only [Act.put, sb, s0, sz]
      refine takeW 4 ⟨some 21, .move (.tmp 1), 22, "law.go:40", #[], none⟩ ?_ (.inl ⟨by rfl, ?_⟩) hS ?_
      rotate_left
      · (intro w hSw; (try dsimp only at hSw); go_simp; (try with_reducible rfl))
      try simp only [Act.put, sb, s0, sz]
      refine takeW 5 ⟨some 22, .move (.tmp 5), 3, "law.go:40", #[], none⟩ ?_ (.inl ⟨by rfl, ?_⟩) hS ?_
      rotate_left
      · (intro w hSw; (try dsimp only at hSw); go_simp; (try with_reducible rfl))
      try simp only [Act.put, sb, s0, sz]
      refine takeW 6 ⟨some 23, .indexAddr 22 (.tmp 21) (.tmp 22), 0, "law.go:40", #[⟨4, .data⟩, ⟨5, .data⟩], none⟩ ?_ (.inl ⟨by rfl, ?_⟩) hS ?_
      rotate_left
      · (intro w hSw; (try dsimp only at hSw); go_simp; (try with_reducible rfl))
      try simp only [Act.put, sb, s0, sz]
      refine takeW 7 ⟨some 24, .load 41 (.tmp 23), 41, "law.go:40", #[⟨6, .data⟩], none⟩ ?_ (.inl ⟨by rfl, ?_⟩) hS ?_
      rotate_left
      · (intro w hSw; (try dsimp only at hSw); go_simp; (try with_reducible rfl))
      try simp only [Act.put, sb, s0, sz]
      refine takeW 8 ⟨some 25, .binOp .neq 41 (.tmp 20) (.tmp 24) 41, 4, "law.go:40", #[⟨3, .data⟩, ⟨7, .data⟩], none⟩ ?_ (.inl ⟨by rfl, ?_⟩) hS ?_
      rotate_left
      · (intro w hSw; (try dsimp only at hSw); go_simp; (try with_reducible rfl))
      try simp only [Act.put, sb, s0, sz]
      refine wpAnyH_done (by kernel_rfl) ?_ _
      go_wp2
      go_roundw
      case rel => exact ⟨k + 1, hlt, by first | rfl | simp, hE.drew⟩
      case measure => simp [intOf] <;> omega
    · obtain rfl : k = es.length := by omega
      go_wp2
      go_ret
      exact ⟨_, rfl, rfl, hE⟩
end Go.Proofs.YtjmllpgmbaoebaaDoor
namespace Go.Proofs.YtjmllpgmbaoebaaDoor
open Go.RowKit Go.SL

def lineP (x : En) : List UInt8 := if x.dir = true then [100, 32] ++ x.path else (([102, 32] ++ x.path) ++ [32]) ++ quoteP x.data
def linesP (es : List En) : List UInt8 := es.flatMap fun x => lineP x ++ [10]
theorem lineP_len (x : En) : (lineP x).length ≤ x.path.length + 4 * x.data.length + 5 := by
  have := (quoteP_len x.data).2
  unfold lineP
  split
  · simp
    omega
  · simp
    omega
set_option maxRecDepth 100000 in
set_option maxHeartbeats 2000000 in
attribute [-go_sem] Instr.loadAt in
theorem line_any {x : En} (hp : x.path.length ≤ 1000000) (hb : x.data.length ≤ 1000000) {l : List HProp} {w : World} (hE : Ent l w) :
    Calls Tryd.prog 64 #[.agg #[.string ⟨x.path.toArray⟩, .bool x.dir, .string ⟨x.data.toArray⟩]] w (Ret fun v w' => v = .string ⟨(lineP x).toArray⟩ ∧ Ent l w') := by
  have HQ := SL.hid (fun (L : List HProp) (w : World) (h : Ent L w) => Quote_any (s := x.data) (by omega) h)
  have hql := (quoteP_len x.data).2
  obtain ⟨xp, xd, xb⟩ := x
  simp only at *
  cases xd with
  | true =>
    obtain ⟨p1, hp1, hj1, hc1⟩ := cat2 [100, 32] xp (by simp only [List.length_cons, List.length_nil]; omega)
    simp only [List.length_cons, List.length_nil, Nat.zero_add, Nat.reduceAdd] at hc1
    have R := SL.hid (show lineP ⟨xp, true, xb⟩ = p1 from by rw [lineP, if_pos rfl, hp1])
    clear hp1
    go_enter Tryd.func64, Tryd.ntmps64
    go_wp2_with (first
      | go_skip
      | ((with_reducible (show Go.wpList _ _ _ (Go.Oper.mk _ (.box _ _) _ _ _ _ :: _) _ _)); refine wpl_box hE rfl rfl rfl ?_; clear hE; intro b1 w hE; simp only [Act.eval, Act.put, List.setIfInBounds_toArray, List.set_cons_zero, List.set_cons_succ, getD_lit, List.getD_cons_succ, List.getD_cons_zero, Value.cells] at hE)
      | ((with_reducible (show Go.wpList _ _ _ (Go.Oper.mk _ (.load _ _) _ _ _ _ :: _) _ _)); (first | (refine wpl_load1 hE 0 rfl rfl rfl rfl (by simp [go_sem]) rfl ?_) | (refine wpl_load1 hE 1 rfl rfl rfl rfl (by simp [go_sem]) rfl ?_) | (refine wpl_load1 hE 2 rfl rfl rfl rfl (by simp [go_sem]) rfl ?_) | (refine wpl_load1 hE 3 rfl rfl rfl rfl (by simp [go_sem]) rfl ?_) | (refine wpl_load1 hE 4 rfl rfl rfl rfl (by simp [go_sem]) rfl ?_) | (refine wpl_load1 hE 5 rfl rfl rfl rfl (by simp [go_sem]) rfl ?_) | (refine wpl_load1 hE 6 rfl rfl rfl rfl (by simp [go_sem]) rfl ?_) | (refine wpl_load1 hE 7 rfl rfl rfl rfl (by simp [go_sem]) rfl ?_))))
    go_ret
    exact ⟨_, rfl, by rw [R.out] <;> rfl, hE.tail⟩
  | false =>
    obtain ⟨p1, hp1, hj1, hc1⟩ := cat2 [102, 32] xp (by simp only [List.length_cons, List.length_nil]; omega)
    have hl1 : p1.length = xp.length + 2 := by rw [hp1]; simp
    obtain ⟨p2, hp2, hj2, hc2⟩ := cat2 p1 [32] (by simp only [List.length_cons, List.length_nil]; omega)
    have hl2 : p2.length = xp.length + 3 := by rw [hp2]; simp; omega
    obtain ⟨p3, hp3, hj3, hc3⟩ := cat2 p2 (quoteP xb) (by omega)
    have R := SL.hid (show lineP ⟨xp, false, xb⟩ = p3 from by rw [lineP, if_neg (by simp), hp3, hp2, hp1])
    simp only [List.length_cons, List.length_nil, Nat.zero_add, Nat.reduceAdd] at hc1 hc2
    clear hp1 hp2 hp3 hl1 hl2 hql
    generalize quoteP xb = qb at *
    go_enter Tryd.func64, Tryd.ntmps64
    go_wp2_with (first
      | go_skip
      | ((with_reducible (show Go.wpList _ _ _ (Go.Oper.mk _ (.box _ _) _ _ _ _ :: _) _ _)); refine wpl_box hE rfl rfl rfl ?_; clear hE; intro b1 w hE; simp only [Act.eval, Act.put, List.setIfInBounds_toArray, List.set_cons_zero, List.set_cons_succ, getD_lit, List.getD_cons_succ, List.getD_cons_zero, Value.cells] at hE)
      | ((with_reducible (show Go.wpList _ _ _ (Go.Oper.mk _ (.load _ _) _ _ _ _ :: _) _ _)); (first | (refine wpl_load1 hE 0 rfl rfl rfl rfl (by simp [go_sem]) rfl ?_) | (refine wpl_load1 hE 1 rfl rfl rfl rfl (by simp [go_sem]) rfl ?_) | (refine wpl_load1 hE 2 rfl rfl rfl rfl (by simp [go_sem]) rfl ?_) | (refine wpl_load1 hE 3 rfl rfl rfl rfl (by simp [go_sem]) rfl ?_) | (refine wpl_load1 hE 4 rfl rfl rfl rfl (by simp [go_sem]) rfl ?_) | (refine wpl_load1 hE 5 rfl rfl rfl rfl (by simp [go_sem]) rfl ?_) | (refine wpl_load1 hE 6 rfl rfl rfl rfl (by simp [go_sem]) rfl ?_) | (refine wpl_load1 hE 7 rfl rfl rfl rfl (by simp [go_sem]) rfl ?_))))
    refine wp_region_held_drew (S := (fun w' => ((Instr.loadAt 9 (.pointer (some ⟨b1, 0, none⟩))).run Tryd.prog w' = .ok (.string ⟨xp.toArray⟩) w') ∧ ((Instr.loadAt 9 (.pointer (some ⟨b1, 2, none⟩))).run Tryd.prog w' = .ok (.string ⟨xb.toArray⟩) w'))) (by kernel_rfl) ⟨(atVm hE.drew (by repeat (first | exact List.Mem.head _ | refine List.Mem.tail _ ?_)) (by simp [go_sem]) rfl), (atVm hE.drew (by repeat (first | exact List.Mem.head _ | refine List.Mem.tail _ ?_)) (by simp [go_sem]) rfl)⟩ (fun hS => ?_)
    refine takeW 0 ⟨some 8, .fieldAddr 41 (.tmp 1) 0, 0, "manifest.go:61", #[], none⟩ ?_ (.inl ⟨by rfl, ?_⟩) hS ?_
    rotate_left
    · (intro w hSw; (try dsimp only at hSw); go_simp; (try with_reducible rfl))
    try simp only [Act.put, sb, s0, sz]
    refine takeW 1 ⟨some 9, .load 9 (.tmp 8), 9, "manifest.go:61", #[⟨0, .data⟩], none⟩ ?_ (.inl ⟨by rfl, ?_⟩) hS ?_
    rotate_left
    · (intro w hSw; (try dsimp only at hSw); go_simp; (try with_reducible rfl))
    try simp only [Act.put, sb, s0, sz]
    refine takeW 2 ⟨some 10, .binOp .add 9 (.const (.string { data := #[102, 32] })) (.tmp 9) 9, 9, "manifest.go:61", #[⟨1, .data⟩], none⟩ ?_ (.inl ⟨by rfl, ?_⟩) hS ?_
    rotate_left
    · (intro w hSw; (try dsimp only at hSw); go_simp; (try with_reducible rfl))
    try simp only [Act.put, sb, s0, sz]
    refine takeW 3 ⟨some 11, .binOp .add 9 (.tmp 10) (.const (.string { data := #[32] })) 9, 9, "manifest.go:61", #[⟨2, .data⟩], none⟩ ?_ (.inl ⟨by rfl, ?_⟩) hS ?_
    rotate_left
    · (intro w hSw; (try dsimp only at hSw); go_simp; (try with_reducible rfl))
    try simp only [Act.put, sb, s0, sz]
    refine takeW 4 ⟨some 12, .fieldAddr 41 (.tmp 1) 2, 0, "manifest.go:61", #[], none⟩ ?_ (.inl ⟨by rfl, ?_⟩) hS ?_
    rotate_left
    · (intro w hSw; (try dsimp only at hSw); go_simp; (try with_reducible rfl))
    try simp only [Act.put, sb, s0, sz]
    refine takeW 5 ⟨some 13, .load 9 (.tmp 12), 9, "manifest.go:61", #[⟨4, .data⟩], none⟩ ?_ (.inl ⟨by rfl, ?_⟩) hS ?_
    rotate_left
    · (intro w hSw; (try dsimp only at hSw); go_simp; (try with_reducible rfl))
    try simp only [Act.put, sb, s0, sz]
    refine wpAnyH_ready (rs := [6]) (by kernel_rfl) (by simp) ?_
    refine (AllReadyH.cons (o := { dst := some 14, op := Go.Op.call { callee := Go.Callee.value (Go.Operand.func 23), args := #[Go.Operand.tmp 13], argTypes := #[9] }, type := 9, pos := "manifest.go:61", after := #[{ on := 5, ground := Go.Ground.data }], guard := none }) rfl (fun K hK => ?_) AllReadyH.nil)
    (go_simp; refine (HQ.out _ _ hE.drew).mono ?_; rintro e w3 ⟨v, rfl, rfl, hQ⟩)
    refine hK.out _ _ ⟨(atVm hQ (by repeat (first | exact List.Mem.head _ | refine List.Mem.tail _ ?_)) (by simp [go_sem]) rfl), (atVm hQ (by repeat (first | exact List.Mem.head _ | refine List.Mem.tail _ ?_)) (by simp [go_sem]) rfl)⟩ (fun hS => ?_)
    clear hK K
    try simp only [Act.put, sb, s0, sz]
    refine takeW 7 ⟨some 15, .binOp .add 9 (.tmp 11) (.tmp 14) 9, 9, "manifest.go:61", #[⟨3, .data⟩, ⟨6, .data⟩], none⟩ ?_ (.inl ⟨by rfl, ?_⟩) hS ?_
    rotate_left
    · (intro w hSw; (try dsimp only at hSw); go_simp; (try with_reducible rfl))
    try simp only [Act.put, sb, s0, sz]
    refine takeW 8 ⟨some 2, .assign (.tmp 15), 9, "manifest.go:61", #[⟨7, .data⟩, ⟨6, .chain⟩, ⟨0, .phase⟩, ⟨1, .phase⟩, ⟨2, .phase⟩, ⟨3, .phase⟩, ⟨4, .phase⟩, ⟨5, .phase⟩, ⟨6, .phase⟩, ⟨7, .phase⟩], none⟩ ?_ (.inl ⟨by rfl, ?_⟩) hS ?_
    rotate_left
    · (intro w hSw; (try dsimp only at hSw); go_simp; (try with_reducible rfl))
    try simp only [Act.put, sb, s0, sz]
    refine wpAnyH_done (by kernel_rfl) ?_ _
    all_goals
      clear hS
      go_wp2
      go_ret
      exact ⟨_, rfl, by rw [R.out] <;> rfl, hQ.tail⟩
/-- a writer's answer, told by its bytes -/
def LnRel (es : List En) (b3 : Nat) (l : List HProp) (i : Value) (wr : World) : Prop :=
  ∃ (k : Nat) (bs : List UInt8), k ≤ es.length ∧ i = .int .i64 k ∧ bs = linesP (es.take k) ∧ Ent (bld b3 bs :: l) wr
theorem lines_len {es : List En} (h : ∀ x ∈ es, x.path.length ≤ 1000000 ∧ x.data.length ≤ 1000000) : (linesP es).length ≤ es.length * 5000006 := by
  induction es with
  | nil => simp [linesP]
  | cons x es ih =>
    have h1 := h x List.mem_cons_self
    have h2 := ih fun y hy => h y (List.mem_cons_of_mem _ hy)
    have h3 := lineP_len x
    have e : linesP (x :: es) = (lineP x ++ [10]) ++ linesP es := rfl
    simp only [e, List.length_append, List.length_cons, List.length_nil]
    omega
theorem lines_step {es : List En} {k : Nat} (h : k < es.length) : linesP (es.take (k + 1)) = (linesP (es.take k) ++ lineP es[k]) ++ [10] := by
  rw [List.take_succ_eq_append_getElem h, linesP, List.flatMap_append]
  simp [linesP]
set_option maxRecDepth 100000 in
set_option maxHeartbeats 2000000 in
attribute [-go_sem] Instr.loadAt in
theorem lines_any {es : List En} (hn : es.length ≤ 10000) (hb : ∀ x ∈ es, x.path.length ≤ 1000000 ∧ x.data.length ≤ 1000000) {ao : Option Addr} {c : Nat} {l : List HProp} {w : World} (hk : Knows l (reads (.slice ao es.length c) es.length (es.flatMap enC))) (hE : Ent l w) :
    Calls Tryd.prog 46 #[.slice ao es.length c] w (Ret fun v w' => v = .string ⟨(linesP es).toArray⟩ ∧ ∃ m, Ent (m ++ l) w') := by
  have Hb := SL.hid hb
  have Hll := SL.hid (fun (k : Nat) => lines_len (es := es.take k) (fun x hx => hb x (List.mem_of_mem_take hx)))
  clear hb
  have Tok := SL.hid True.intro
  go_enter Tryd.func46, Tryd.ntmps46
  go_wp2_with (first
    | go_skip
    | ((with_reducible (show Go.wpList _ _ _ (Go.Oper.mk _ (.alloc _) _ _ _ _ :: _) _ _)); refine wpl_alloc hE rfl rfl (by simp [go_sem]; rfl) ?_; clear hE; intro b3 w hE; simp only [Act.eval, Act.put, List.setIfInBounds_toArray, List.set_cons_zero, List.set_cons_succ, getD_lit, List.getD_cons_succ, List.getD_cons_zero, Value.cells] at hE))
  replace hE := bld_new hE
  have HLi := SL.hid (fun (x : En) (hx : x ∈ es) (L : List HProp) (w : World) (h : Ent L w) => line_any (x := x) (Hb.out x hx).1 (Hb.out x hx).2 h)
  go_loopw [8] (fun i wr => ∃ m, LnRel es b3 (m ++ l) i wr) (fun i _ => es.length - (intOf i).toNat)
  case atStart => exact ⟨[], 0, [], Nat.zero_le _, rfl, rfl, hE⟩
  case round =>
    clear hE
    obtain ⟨m, k, bs, hkl, rfl, hbs, hE⟩ := hrel
    have hbl : bs.length ≤ 50000060000 := by
      have h1 := Hll.out k
      rw [← hbs, List.length_take] at h1
      omega
    by_cases hlt : k < es.length
    · obtain ⟨b, off, rfl, hz⟩ := en_at (hk _ hE.tail.drop) hlt
      clear hz
      have hl0 := (load_en (hk _ hE.tail.drop) hlt).1
      have HL := SL.hid (HLi.out es[k] (List.getElem_mem hlt))
      have Hst := SL.hid (lines_step hlt)
      rw [← hbs] at Hst
      have hxl := lineP_len es[k]
      have hxb := Hb.out es[k] (List.getElem_mem hlt)
      have hyl : (lineP es[k]).length ≤ 5000005 := by omega
      clear hbs hxl hxb
      generalize lineP es[k] = y at *
      generalize es[k] = x at *
      obtain ⟨xp, xd, xb⟩ := x
      simp only at hl0 HL
      have HW := SL.hid (fun (L : List HProp) (w : World) (h : Ent (bld b3 bs :: L) w) => WriteString_any (ys := y) (by omega) h)
      have HW2 := SL.hid (fun (L : List HProp) (w : World) (h : Ent (bld b3 (bs ++ y) :: L) w) => WriteByte_any (y := 10) (by rw [List.length_append]; omega) h)
      go_wp2_with (first
        | go_skip
        | ((with_reducible (show Go.wpList _ _ _ (Go.Oper.mk _ (.alloc _) _ _ _ _ :: _) _ _)); refine wpl_alloc hE rfl rfl (by simp [go_sem]; rfl) ?_; clear hE; intro b5 w hE; simp only [Act.eval, Act.put, List.setIfInBounds_toArray, List.set_cons_zero, List.set_cons_succ, getD_lit, List.getD_cons_succ, List.getD_cons_zero, Value.cells] at hE)
        | ((with_reducible (show Go.wpList _ _ _ (Go.Oper.mk _ (.store 41 _ _) _ _ _ _ :: _) _ _)); (first | (refine wpl_storeW hE 0 rfl rfl rfl (xs := [.string ⟨xp.toArray⟩, .bool xd, .string ⟨xb.toArray⟩]) rfl rfl Tryd.sizeOf41 rfl (by simp [Value.oneCell']) rfl ?_) | (refine wpl_storeW hE 1 rfl rfl rfl (xs := [.string ⟨xp.toArray⟩, .bool xd, .string ⟨xb.toArray⟩]) rfl rfl Tryd.sizeOf41 rfl (by simp [Value.oneCell']) rfl ?_) | (refine wpl_storeW hE 2 rfl rfl rfl (xs := [.string ⟨xp.toArray⟩, .bool xd, .string ⟨xb.toArray⟩]) rfl rfl Tryd.sizeOf41 rfl (by simp [Value.oneCell']) rfl ?_) | (refine wpl_storeW hE 3 rfl rfl rfl (xs := [.string ⟨xp.toArray⟩, .bool xd, .string ⟨xb.toArray⟩]) rfl rfl Tryd.sizeOf41 rfl (by simp [Value.oneCell']) rfl ?_) | (refine wpl_storeW hE 4 rfl rfl rfl (xs := [.string ⟨xp.toArray⟩, .bool xd, .string ⟨xb.toArray⟩]) rfl rfl Tryd.sizeOf41 rfl (by simp [Value.oneCell']) rfl ?_) | (refine wpl_storeW hE 5 rfl rfl rfl (xs := [.string ⟨xp.toArray⟩, .bool xd, .string ⟨xb.toArray⟩]) rfl rfl Tryd.sizeOf41 rfl (by simp [Value.oneCell']) rfl ?_) | (refine wpl_storeW hE 6 rfl rfl rfl (xs := [.string ⟨xp.toArray⟩, .bool xd, .string ⟨xb.toArray⟩]) rfl rfl Tryd.sizeOf41 rfl (by simp [Value.oneCell']) rfl ?_) | (refine wpl_storeW hE 7 rfl rfl rfl (xs := [.string ⟨xp.toArray⟩, .bool xd, .string ⟨xb.toArray⟩]) rfl rfl Tryd.sizeOf41 rfl (by simp [Value.oneCell']) rfl ?_)); clear hE; intro w hE; simp only [List.set_cons_zero, List.set_cons_succ] at hE)
        | ((with_reducible (show Go.wpList _ _ _ (Go.Oper.mk _ (.load 41 _) _ _ _ _ :: _) _ _)); (first | (refine wpl_loadW hE 0 rfl rfl rfl rfl Tryd.isAgg41 Tryd.sizeOf41 rfl ?_) | (refine wpl_loadW hE 1 rfl rfl rfl rfl Tryd.isAgg41 Tryd.sizeOf41 rfl ?_) | (refine wpl_loadW hE 2 rfl rfl rfl rfl Tryd.isAgg41 Tryd.sizeOf41 rfl ?_) | (refine wpl_loadW hE 3 rfl rfl rfl rfl Tryd.isAgg41 Tryd.sizeOf41 rfl ?_) | (refine wpl_loadW hE 4 rfl rfl rfl rfl Tryd.isAgg41 Tryd.sizeOf41 rfl ?_) | (refine wpl_loadW hE 5 rfl rfl rfl rfl Tryd.isAgg41 Tryd.sizeOf41 rfl ?_) | (refine wpl_loadW hE 6 rfl rfl rfl rfl Tryd.isAgg41 Tryd.sizeOf41 rfl ?_) | (refine wpl_loadW hE 7 rfl rfl rfl rfl Tryd.isAgg41 Tryd.sizeOf41 rfl ?_)))
        | (go_at_call 64; refine (HL.out _ _ hE).mono ?_; clear hE; rintro e w3 ⟨v, rfl, rfl, hE⟩; replace hE := hE.front 1 rfl)
        | (go_at_call 63; refine (HW.out _ _ hE).mono ?_; clear hE; rintro e w4 ⟨v, rfl, rfl, hE⟩)
        | (go_at_call 65; refine (HW2.out _ _ hE).mono ?_; clear hE; rintro e w4 ⟨v, rfl, rfl, hE⟩))
      go_roundw
      case measure => simp [intOf] <;> omega
      case rel => exact ⟨_ :: m, k + 1, (bs ++ y) ++ [10], hlt, by first | rfl | simp, by rw [Hst.out], hE⟩
    · obtain rfl : k = es.length := by omega
      rw [List.take_length] at hbs
      have Hbs := SL.hid hbs
      clear hbs
      have HS := SL.hid (fun (L : List HProp) (w : World) (h : Ent (bld b3 bs :: L) w) => String_any h)
      go_wp2_with (first
        | go_skip
        | (go_at_call 66; refine (HS.out _ _ hE).mono ?_; clear hE; rintro e w4 ⟨v, rfl, rfl, hE⟩))
      go_ret
      exact ⟨_, rfl, by rw [← Hbs.out]; rfl, _ :: m, hE⟩

set_option maxRecDepth 100000 in
set_option maxHeartbeats 2000000 in
attribute [-go_sem] Instr.loadAt in
theorem Put_any {d : Nat} {t : Tr} (hw : Tr.Wf d t) (hd : d ≤ 100) {kv : Value} {l : List HProp} (hkv : KidsAt l kv t.kids) (hn : (entT d [] t).length ≤ 10000) (hb : ∀ x ∈ entT d [] t, x.path.length ≤ 1000000 ∧ x.data.length ≤ 1000000) {w : World} (hE : Ent l w) :
    Calls Tryd.prog 27 #[nodeV t kv] w (Ret fun v w' => v = .string ⟨(linesP (entT d [] t)).toArray⟩ ∧ ∃ m, Ent (m ++ l) w') := by
  have HEn := SL.hid (fun (L : List HProp) (w : World) (hs : l <:+ L) (hE : Ent L w) => Entries_any hw hd (hkv.suf hs) (by omega) hE)
  have HL := SL.hid (fun (a : Option Addr) (c : Nat) (L : List HProp) (w : World) (hE : Ent (rowEn a c (entT d [] t) :: L) w) => lines_any hn hb (fun w h => reads_row h 0 rfl) hE)
  simp only [nodeV] at HEn
  unfold nodeV
  generalize entT d [] t = es at *
  go_enter Tryd.func27, Tryd.ntmps27
  go_wp2_with (first
    | go_skip
    | ((with_reducible (show Go.wpList _ _ _ (Go.Oper.mk _ (.box _ _) _ _ _ _ :: _) _ _)); refine wpl_box hE rfl rfl rfl ?_; clear hE; intro b1 w hE; simp only [Act.eval, Act.put, List.setIfInBounds_toArray, List.set_cons_zero, List.set_cons_succ, getD_lit, List.getD_cons_succ, List.getD_cons_zero, Value.cells] at hE)
    | ((with_reducible (show Go.wpList _ _ _ (Go.Oper.mk _ (.load 28 _) _ _ _ _ :: _) _ _)); refine wpl_loadA hE 0 rfl rfl rfl (off := 0) rfl Tryd.isAgg28 Tryd.sizeOf28 [.bool t.dir, .string ⟨t.data.toArray⟩, kv] rfl (fun j hj => by match j, hj with | 0, _ => rfl | 1, _ => rfl | 2, _ => rfl) ?_)
    | (go_at_call 13; refine (HEn.out _ _ (List.suffix_cons _ _) hE).mono ?_; clear hE; rintro e w3 ⟨v, rfl, a4, c4, m4, rfl, hE⟩)
    | (go_at_call 46; refine (HL.out _ _ _ _ hE).mono ?_; clear hE; rintro e w4 ⟨v, rfl, rfl, m5, hE⟩))
  go_ret
  refine ⟨_, rfl, rfl, m5 ++ (rowEn a4 c4 es :: (m4 ++ [pt b1 (.cells #[.bool t.dir, .string ⟨t.data.toArray⟩, kv] 28)])), ?_⟩
  simp only [List.append_assoc, List.cons_append, List.nil_append]
  exact hE
end Go.Proofs.YtjmllpgmbaoebaaDoor
namespace Go.Proofs
open Go.Shelf
shelf_lay Lays.n100 Nm 100 at Tryd as Tryd.lays100
shelf_lay Lays.n102 Nm 102 at Tryd as Tryd.lays102
shelf_lay Lays.n206 Nm 206 at Tryd as Tryd.lays206
shelf_lay Lays.n219 Nm 219 at Tryd as Tryd.lays219
end Go.Proofs
namespace Go.Proofs.YtjmllpgmbaoebaaDoor
open Go.RowKit Go.SL

attribute [local go_sem] Oper.semAt_some wide_fn wide_depth
def cutsN : List UInt8 → List (List UInt8)
  | [] => [[]]
  | c :: s => if c == 10 then [] :: cutsN s else match cutsN s with
    | [] => [[c]]
    | h :: t => (c :: h) :: t
theorem cutsN_cons (c : UInt8) (s : List UInt8) : cutsN (c :: s) = if c == 10 then [] :: cutsN s else match cutsN s with
    | [] => [[c]]
    | h :: t => (c :: h) :: t := rfl
theorem cutsN_ne (s : List UInt8) : cutsN s ≠ [] := by
  cases s with
  | nil => simp [cutsN]
  | cons c s =>
    unfold cutsN
    split
    · simp
    · split <;> simp
theorem idx_cutsN : ∀ s : List UInt8, (Lib.indexByte s 10 = -1 ∧ cutsN s = [s]) ∨ ∃ k : Nat, k < s.length ∧ Lib.indexByte s 10 = k ∧ cutsN s = s.take k :: cutsN (s.drop (k + 1))
  | [] => .inl ⟨rfl, rfl⟩
  | c :: s => by
    rw [Lib.indexByte, cutsN_cons]
    cases hc : c == 10 with
    | true => exact .inr ⟨0, by simp, by simp, by simp⟩
    | false =>
      rcases idx_cutsN s with ⟨h1, h2⟩ | ⟨k, hk, h1, h2⟩
      · exact .inl ⟨by rw [h1]; simp, by rw [h2]; simp⟩
      · refine .inr ⟨k + 1, by simpa using hk, ?_, ?_⟩
        · rw [h1]
          have : ((k : Int) == -1) = false := by rw [beq_eq_false_iff_ne]; omega
          simp [this]
        · rw [h2, if_neg (by simp)]; rfl
theorem cutsN_free {s : List UInt8} (h : ∀ c ∈ s, c ≠ 10) : cutsN s = [s] := by
  induction s with
  | nil => rfl
  | cons c s ih =>
    have hc : (c == 10) = false := by simpa using h c (by simp)
    rw [cutsN, hc, ih (fun d hd => h d (by simp [hd]))]
    simp
theorem cutsN_app {a : List UInt8} (b : List UInt8) (h : ∀ c ∈ a, c ≠ 10) : cutsN (a ++ 10 :: b) = a :: cutsN b := by
  induction a with
  | nil => simp [cutsN]
  | cons c a ih =>
    have hc : (c == 10) = false := by simpa using h c (by simp)
    rw [List.cons_append, cutsN, hc, ih (fun d hd => h d (by simp [hd]))]
    simp
theorem cutsN_len : ∀ s : List UInt8, (cutsN s).length ≤ s.length + 1 ∧ ∀ x ∈ cutsN s, x.length ≤ s.length
  | [] => by simp [cutsN]
  | c :: s => by
    obtain ⟨h1, h2⟩ := cutsN_len s
    unfold cutsN
    split
    · refine ⟨by simp only [List.length_cons]; omega, fun x hx => ?_⟩
      simp only [List.mem_cons] at hx
      rcases hx with rfl | hx
      · simp
      · have := h2 x hx; simp only [List.length_cons]; omega
    · obtain ⟨h, t, e⟩ := List.exists_cons_of_ne_nil (cutsN_ne s)
      rw [e] at h1 h2 ⊢
      refine ⟨by simp only [List.length_cons] at h1 ⊢; omega, fun x hx => ?_⟩
      simp only [List.mem_cons] at hx
      rcases hx with rfl | hx
      · have := h2 h (by simp); simp only [List.length_cons]; omega
      · have := h2 x (by simp [hx]); simp only [List.length_cons]; omega

/-- the iterator's own heap: what is left, the text between, how much of it is kept -/
def itStN (p : List UInt8) (bs bsep bsave : Nat) (pre : List (List UInt8)) : List HProp :=
  [pt bs (.cells #[.string ⟨(rst p pre).toArray⟩] 9), pt bsep (.cells #[.string ⟨#[10]⟩] 9), pt bsave (.cells #[.int .i64 0] 3)]
set_option maxRecDepth 100000 in
theorem splitSeqN_any (p : List UInt8) {l : List HProp} {w : World} (hE : Ent l w) :
    Calls Tryd.prog 58 #[.string ⟨p.toArray⟩, .string ⟨#[10]⟩, .int .i64 0] w (Ret fun v w' => ∃ bs bsep bsave, v = .func (.func 71) #[] #[.pointer (some ⟨bsep, 0, none⟩), .pointer (some ⟨bs, 0, none⟩), .pointer (some ⟨bsave, 0, none⟩)] ∧ Ent (itStN p bs bsep bsave [] ++ l) w') := by
  go_enter Tryd.func58, Tryd.ntmps58
  go_wp2_with (first
    | go_skip
    | ((with_reducible (show Go.wpList _ _ _ (Go.Oper.mk _ (.box _ (.tmp 0)) _ _ _ _ :: _) _ _)); refine wpl_box hE rfl rfl rfl ?_; clear hE; intro b0 w hE1)
    | ((with_reducible (show Go.wpList _ _ _ (Go.Oper.mk _ (.box _ (.tmp 1)) _ _ _ _ :: _) _ _)); refine wpl_box hE1 rfl rfl rfl ?_; clear hE1; intro b1 w hE2)
    | ((with_reducible (show Go.wpList _ _ _ (Go.Oper.mk _ (.box _ (.tmp 2)) _ _ _ _ :: _) _ _)); refine wpl_box hE2 rfl rfl rfl ?_; clear hE2; intro b2 w hE3))
  go_ret
  refine ⟨_, rfl, b0, b1, b2, rfl, ?_⟩
  rw [itStN, rst_nil]
  exact hE3.perm perm_rev3
set_option maxRecDepth 100000 in
theorem SplitSeqN_any (p : List UInt8) {l : List HProp} {w : World} (hE : Ent l w) :
    Calls Tryd.prog 43 #[.string ⟨p.toArray⟩, .string ⟨#[10]⟩] w (Ret fun v w' => ∃ bs bsep bsave, v = .func (.func 71) #[] #[.pointer (some ⟨bsep, 0, none⟩), .pointer (some ⟨bs, 0, none⟩), .pointer (some ⟨bsave, 0, none⟩)] ∧ Ent (itStN p bs bsep bsave [] ++ l) w') := by
  go_enter Tryd.func43, Tryd.ntmps43
  go_wp2_with (first
    | go_skip
    | (go_at_call 58; refine (splitSeqN_any p hE).mono ?_; clear hE; rintro e w2 ⟨v, rfl, b0, b1, b2, rfl, hE2⟩))
  go_ret
  exact ⟨_, rfl, b0, b1, b2, rfl, hE2⟩

set_option maxRecDepth 100000 in
set_option maxHeartbeats 4000000 in
theorem splitN_iter (p : List UInt8) (hp : p.length ≤ 1099511627776) (bs bsep bsave : Nat) :
    SeqSL Tryd.prog 71 #[.pointer (some ⟨bsep, 0, none⟩), .pointer (some ⟨bs, 0, none⟩), .pointer (some ⟨bsave, 0, none⟩)] (fun x : List UInt8 => #[.string ⟨x.toArray⟩]) (cutsN p) (itStN p bs bsep bsave) := by
  intro lp J Jx W hW hY
  refine callsIn_of_wp Tryd.func71 rfl trivial ?_ rfl
  simp only [Tryd.ntmps71, List.size_toArray, List.length_cons, List.length_nil, Nat.reduceAdd, Nat.reduceSub, Array.replicate_succ, Array.replicate_zero, List.push_toArray, List.append_toArray, List.nil_append, List.cons_append]
  have k1 := hW.cell 1 rfl 0
  have k0 := hW.cell 0 rfl 0
  have k2 := hW.cell 2 rfl 0
  simp only [List.getElem?_toArray, List.getElem?_cons_zero] at k0 k1 k2
  gi_wp2
  clear k0 k1 k2
  gi_loopw [7] (fun _ wr => ∃ pre, cutsN p = pre ++ cutsN (rst p pre) ∧ Ent (itStN p bs bsep bsave pre ++ J pre) wr) (fun _ wr => strLeft bs wr)
  case atStart => exact ⟨[], by rw [rst_nil]; rfl, hW⟩
  case round =>
    obtain ⟨pre, hc, hE⟩ := hrel
    have k0 : wr.cell? ⟨bs, 0, none⟩ = some (.string ⟨(rst p pre).toArray⟩) := hE.cell 0 rfl 0
    have k1 : wr.cell? ⟨bsep, 0, none⟩ = some (.string ⟨#[10]⟩) := hE.cell 1 rfl 0
    have k2 : wr.cell? ⟨bsave, 0, none⟩ = some (.int .i64 0) := hE.cell 2 rfl 0
    have hix := index_one ⟨(rst p pre).toArray⟩ 10 wr
    have hst := fun x (hk : x < (rst p pre).length) => rst_step p pre hk
    rcases idx_cutsN (rst p pre) with ⟨hi, he⟩ | ⟨k, hk, hi, he⟩
    · have hpre : pre ++ [rst p pre] <+: cutsN p := by rw [hc, he]; exact List.prefix_rfl
      have hJ := SL.hid (show cutsN p = pre ++ [rst p pre] by rw [hc, he])
      obtain ⟨fn, tmps, assign, body, hy, hR⟩ := hY pre (rst p pre) wr hpre hE
      simp only [List.toList_toArray] at hix
      rw [hi] at hix
      clear hst hY hc hpre hi he
      gi_wp2_with (gi_at_call 73; refine (callsIn_wide.2 hix).mono ?_; rintro e w' ⟨rfl, rfl⟩)
      refine hR.mono ?_
      rintro e W3 (⟨rfl, hE3⟩ | ⟨rfl, hE3⟩)
      · gi_wp2
        go_end0
        exact ⟨⟨_, rfl⟩, .inl (by rw [hJ.out]; exact hE3.drop)⟩
      · gi_wp2
        go_end0
        exact ⟨⟨_, rfl⟩, .inr ⟨_, by rw [hJ.out]; exact List.prefix_rfl, hE3⟩⟩
    · have hpre : pre ++ [(rst p pre).take k] <+: cutsN p := by rw [hc, he]; exact ⟨cutsN ((rst p pre).drop (k + 1)), by simp⟩
      have hJ := SL.hid (show cutsN p = (pre ++ [(rst p pre).take k]) ++ cutsN (rst p (pre ++ [(rst p pre).take k])) by rw [hst k hk, hc, he]; simp)
      obtain ⟨fn, tmps, assign, body, hy, hR⟩ := hY pre ((rst p pre).take k) wr hpre hE
      simp only [List.toList_toArray] at hix
      rw [hi] at hix
      have hlen : (rst p pre).length ≤ 1099511627776 := by rw [rst, List.length_drop]; omega
      have hs1 := fun w => run_slice_sHi (P := Tryd.prog) Tryd.underlying9 (bs := rst p pre) (k := k) (by omega) w
      have hs2 := fun w => run_slice_sLo (P := Tryd.prog) Tryd.underlying9 (bs := rst p pre) (k := k + 1) (by omega) w
      have hw0 : wrap64 ((k : Int) + 1) = ((k + 1 : Nat) : Int) := by unfold wrap64; omega
      have hwk : wrap64 (k : Int) = (k : Int) := by unfold wrap64; omega
      have hex : (⟨(rst p pre).toArray⟩ : ByteArray).extract 0 k = ⟨((rst p pre).take k).toArray⟩ := by rw [extract_mk]; simp
      have hex2 : (⟨(rst p pre).toArray⟩ : ByteArray).extract (k + 1) (rst p pre).length = ⟨((rst p pre).drop (k + 1)).toArray⟩ := by rw [extract_mk, List.take_of_length_le (by simp)]
      have hkl : (k : Int) ≤ ((rst p pre).length : Int) := by omega
      have hkl1 : ((k + 1 : Nat) : Int) ≤ ((rst p pre).length : Int) := by omega
      have hkn : decide ((k : Int) < 0) = false := decide_eq_false (by omega)
      have hst2 := SL.hid (hst k hk)
      have hlt := SL.hid hk
      clear hst hY hc he hi hk
      gi_wp2_with (gi_at_call 73; refine (callsIn_wide.2 hix).mono ?_; rintro e w' ⟨rfl, rfl⟩)
      refine hR.mono ?_
      rintro e W3 (⟨rfl, hE3⟩ | ⟨rfl, hE3⟩)
      · have j0 : W3.cell? ⟨bs, 0, none⟩ = some (.string ⟨(rst p pre).toArray⟩) := hE3.cell 0 rfl 0
        have j1 : W3.cell? ⟨bsep, 0, none⟩ = some (.string ⟨#[10]⟩) := hE3.cell 1 rfl 0
        have jf : W3.frozen? ⟨bs, 0, none⟩ = false := hE3.frozen 0 rfl 0
        gi_wp2
        go_roundw
        case rel =>
          have h := hE3.setCell 0 rfl 0 (.string ⟨((rst p pre).drop (k + 1)).toArray⟩)
          refine ⟨_, hJ.out, ?_⟩
          rw [itStN, hst2.out]
          exact h
        case measure =>
          have h := hE3.setCell 0 rfl 0 (.string ⟨((rst p pre).drop (k + 1)).toArray⟩)
          rw [strLeft_eq k0, strLeft_eq (h.cell 0 rfl 0), List.length_drop]
          have := hlt.out
          omega
      · gi_wp2
        refine bodyPost_ret (results_none rfl _ _ _) rfl ?_
        exact ⟨⟨_, rfl⟩, .inr ⟨_, hJ.out ▸ List.prefix_append _ _, hE3⟩⟩

def hasP (s p : List UInt8) : Bool := Lib.hasPrefix s p
theorem sufx_any (s p : List UInt8) (hs : s.length ≤ 1000000000) (w : World) :
    Calls Tryd.prog 42 #[.string ⟨s.toArray⟩, .string ⟨p.toArray⟩] w fun e w' => e = .returned (.bool (Lib.hasSuffix s p)) ∧ w' = w := Any.strings_HasSuffix Tryd.lays100 ⟨s.toArray⟩ ⟨p.toArray⟩ w (by rw [bytes_size]; omega)
theorem trim_any (s p : List UInt8) (hs : s.length ≤ 1000000000) (w : World) :
    Calls Tryd.prog 44 #[.string ⟨s.toArray⟩, .string ⟨p.toArray⟩] w fun e w' => e = .returned (.string ⟨(Lib.trimSuffix s p).toArray⟩) ∧ w' = w := Any.strings_TrimSuffix Tryd.lays102 ⟨s.toArray⟩ ⟨p.toArray⟩ w (by rw [bytes_size]; omega)
theorem hasP_any (s p : List UInt8) (w : World) :
    Calls Tryd.prog 81 #[.string ⟨s.toArray⟩, .string ⟨p.toArray⟩] w fun e w' => e = .returned (.bool (hasP s p)) ∧ w' = w := Any.stringslite_HasPrefix Tryd.lays206 ⟨s.toArray⟩ ⟨p.toArray⟩ w
theorem idx1_any (s : List UInt8) (c : UInt8) (w : World) :
    Calls Tryd.prog 80 #[.string ⟨s.toArray⟩, .string ⟨#[c]⟩] w fun e w' => e = .returned (.int .i64 (Lib.indexByte s c)) ∧ w' = w := Any.stringslite_Index_one Tryd.lays219 ⟨s.toArray⟩ c w
end Go.Proofs.YtjmllpgmbaoebaaDoor
namespace Go.Proofs.YtjmllpgmbaoebaaDoor
open Go.RowKit Go.SL

def cutPx (s p : List UInt8) : List UInt8 := if hasP s p = true then s.drop p.length else s
theorem hasP_len {s p : List UInt8} (h : hasP s p = true) : p.length ≤ s.length := (List.isPrefixOf_iff_prefix.1 h).length_le
set_option maxRecDepth 100000 in
theorem slCutPrefix_any (s p : List UInt8) (hs : s.length ≤ 1000000000) (w : World) :
    Calls Tryd.prog 74 #[.string ⟨s.toArray⟩, .string ⟨p.toArray⟩] w fun e w' => e = .returned (.tuple #[.string ⟨(cutPx s p).toArray⟩, .bool (hasP s p)]) ∧ w' = w := by
  have hP := SL.hid (hasP_any s p)
  cases h : hasP s p with
  | true =>
    rw [h] at hP
    have R := SL.hid (show cutPx s p = s.drop p.length by rw [cutPx, if_pos h])
    have hl := hasP_len h
    have hli : (p.length : Int) ≤ (s.length : Int) := by omega
    have hex : (⟨s.toArray⟩ : ByteArray).extract p.length s.length = ⟨(s.drop p.length).toArray⟩ := by rw [extract_mk, List.take_of_length_le (by simp)]
    clear h
    go_enter Tryd.func74, Tryd.ntmps74
    go_wp2_with (first
      | go_skip
      | (go_at_call 81; refine (hP.out _).mono ?_; rintro e w' ⟨rfl, rfl⟩))
    go_ret2
    exact ⟨by rw [R.out]; rfl, rfl⟩
  | false =>
    rw [h] at hP
    have R := SL.hid (show cutPx s p = s by rw [cutPx, if_neg (by rw [h]; simp)])
    clear h
    go_enter Tryd.func74, Tryd.ntmps74
    go_wp2_with (first
      | go_skip
      | (go_at_call 81; refine (hP.out _).mono ?_; rintro e w' ⟨rfl, rfl⟩))
    go_ret2
    exact ⟨by rw [R.out]; rfl, rfl⟩
set_option maxRecDepth 100000 in
theorem CutPrefix_any (s p : List UInt8) (hs : s.length ≤ 1000000000) (w : World) :
    Calls Tryd.prog 61 #[.string ⟨s.toArray⟩, .string ⟨p.toArray⟩] w fun e w' => e = .returned (.tuple #[.string ⟨(cutPx s p).toArray⟩, .bool (hasP s p)]) ∧ w' = w := by
  have hP := SL.hid (slCutPrefix_any s p hs)
  generalize cutPx s p = r at *
  generalize hasP s p = b at *
  go_enter Tryd.func61, Tryd.ntmps61
  go_wp2_with (first
    | go_skip
    | (go_at_call 74; refine (hP.out _).mono ?_; rintro e w' ⟨rfl, rfl⟩))
  go_ret2
  exact ⟨rfl, rfl⟩
/-- a text cut at its first space -/
def cutSp (s : List UInt8) : List UInt8 × List UInt8 × Bool := if 0 ≤ Lib.indexByte s 32 then (s.take (Lib.indexByte s 32).toNat, s.drop ((Lib.indexByte s 32).toNat + 1), true) else (s, [], false)
theorem idx_lt : ∀ (s : List UInt8) (c : UInt8), Lib.indexByte s c < s.length
  | [], _ => by simp [Lib.indexByte]
  | b :: l, c => by
    have := idx_lt l c
    unfold Lib.indexByte
    split
    · simp <;> omega
    · split
      · simp <;> omega
      · simp <;> omega
set_option maxRecDepth 100000 in
set_option maxHeartbeats 1000000 in
theorem slCut_any (s : List UInt8) (hs : s.length ≤ 1000000000) {l : List HProp} {w : World} (hE : Ent l w) :
    Calls Tryd.prog 75 #[.string ⟨s.toArray⟩, .string ⟨#[32]⟩] w (Ret fun v w' => v = .tuple #[.string ⟨(cutSp s).1.toArray⟩, .string ⟨(cutSp s).2.1.toArray⟩, .bool (cutSp s).2.2] ∧ Ent l w') := by
  have hP := SL.hid (idx1_any s 32)
  have hlt := idx_lt s 32
  have hge := Lib.indexByte_ge s 32
  cases h : decide (0 ≤ Lib.indexByte s 32) with
  | true =>
    obtain ⟨k, hk⟩ : ∃ k : Nat, Lib.indexByte s 32 = k := ⟨(Lib.indexByte s 32).toNat, by have := of_decide_eq_true h; omega⟩
    have R := SL.hid (show cutSp s = (s.take k, s.drop (k + 1), true) by rw [cutSp, if_pos (of_decide_eq_true h), hk]; rfl)
    rw [hk] at hP hlt
    have hkl : (k : Int) ≤ (s.length : Int) := by omega
    have hkl1 : ((k + 1 : Nat) : Int) ≤ (s.length : Int) := by omega
    have hk0 : (0 : Int) ≤ (k : Int) + 1 := by omega
    have hk1 : (k : Int) + 1 ≤ (s.length : Int) := by omega
    have hw0 : wrap64 ((k : Int) + 1) = ((k + 1 : Nat) : Int) := by unfold wrap64; omega
    have hwi : IntKind.i64.wrap ((k : Int) + 1) = ((k + 1 : Nat) : Int) := by
      simp only [IntKind.wrap, IntKind.bits, IntKind.signed]
      simp
      omega
    have hex : (⟨s.toArray⟩ : ByteArray).extract 0 k = ⟨(s.take k).toArray⟩ := by rw [extract_mk]; simp
    have hex2 : (⟨s.toArray⟩ : ByteArray).extract (k + 1) s.length = ⟨(s.drop (k + 1)).toArray⟩ := by rw [extract_mk, List.take_of_length_le (by simp)]
    clear h hk hge hlt
    go_enter Tryd.func75, Tryd.ntmps75
    go_wp2_with (first
      | go_skip
      | (go_at_call 80; refine (hP.out _).mono ?_; rintro e w' ⟨rfl, rfl⟩))
    refine wp_region_held_drew (S := fun _ => True) (by kernel_rfl) trivial (fun hS => ?_)
    refine takeW 0 ⟨some 13, .move (.tmp 0), 9, "strings.go:82", #[], none⟩ ?_ (.inl ⟨by rfl, ?_⟩) hS ?_
    rotate_left
    · (intro w hSw; (try dsimp only at hSw); go_simp; (try with_reducible rfl))
    try simp only [Act.put, sb, s0, sz]
    refine takeW 1 ⟨some 14, .move (.tmp 7), 3, "strings.go:82", #[], none⟩ ?_ (.inl ⟨by rfl, ?_⟩) hS ?_
    rotate_left
    · (intro w hSw; (try dsimp only at hSw); go_simp; (try with_reducible rfl))
    try simp only [Act.put, sb, s0, sz]
    refine takeW 2 ⟨some 15, .slice 9 (.tmp 13) none (some (.tmp 14)) none, 9, "strings.go:82", #[⟨0, .data⟩, ⟨1, .data⟩], none⟩ ?_ (.inl ⟨by rfl, ?_⟩) hS ?_
    rotate_left
    · (intro w hSw; (try dsimp only at hSw); go_simp; (try with_reducible rfl))
    try simp only [Act.put, sb, s0, sz]
    refine takeW 3 ⟨some 16, .move (.tmp 0), 9, "strings.go:82", #[], none⟩ ?_ (.inl ⟨by rfl, ?_⟩) hS ?_
    rotate_left
    · (intro w hSw; (try dsimp only at hSw); go_simp; (try with_reducible rfl))
    try simp only [Act.put, sb, s0, sz]
    refine takeW 4 ⟨some 17, .move (.tmp 7), 3, "strings.go:82", #[], none⟩ ?_ (.inl ⟨by rfl, ?_⟩) hS ?_
    rotate_left
    · (intro w hSw; (try dsimp only at hSw); go_simp; (try with_reducible rfl))
    try simp only [Act.put, sb, s0, sz]
    refine takeW 5 ⟨some 18, .move (.tmp 1), 9, "strings.go:82", #[], none⟩ ?_ (.inl ⟨by rfl, ?_⟩) hS ?_
    rotate_left
    · (intro w hSw; (try dsimp only at hSw); go_simp; (try with_reducible rfl))
    try simp only [Act.put, sb, s0, sz]
    refine takeW 6 ⟨some 19, .call { callee := .builtin .len, args := #[.tmp 18], argTypes := #[9] }, 3, "strings.go:82", #[⟨5, .data⟩], none⟩ ?_ (.inl ⟨by rfl, ?_⟩) hS ?_
    rotate_left
    · (intro w hSw; (try dsimp only at hSw); go_simp; (try with_reducible rfl))
    try simp only [Act.put, sb, s0, sz]
    refine takeW 7 ⟨some 20, .binOp .add 3 (.tmp 17) (.tmp 19) 3, 3, "strings.go:82", #[⟨4, .data⟩, ⟨6, .data⟩], none⟩ ?_ (.inl ⟨by rfl, ?_⟩) hS ?_
    rotate_left
    · (intro w hSw; (try dsimp only at hSw); go_simp; (try with_reducible rfl))
    try simp only [Act.put, sb, s0, sz]
    refine takeW 8 ⟨some 21, .slice 9 (.tmp 16) (some (.tmp 20)) none none, 9, "strings.go:82", #[⟨3, .data⟩, ⟨7, .data⟩], none⟩ ?_ (.inl ⟨by rfl, ?_⟩) hS ?_
    rotate_left
    · (intro w hSw; (try dsimp only at hSw); go_simp; (try with_reducible rfl))
    try simp only [Act.put, sb, s0, sz]
    refine takeW 9 ⟨some 4, .assign (.tmp 15), 9, "strings.go:82", #[⟨2, .data⟩, ⟨0, .phase⟩, ⟨1, .phase⟩, ⟨2, .phase⟩, { on := 3, ground := Go.Ground.textOnly Go.Departure.lateStores }, { on := 4, ground := Go.Ground.textOnly Go.Departure.lateStores }, { on := 5, ground := Go.Ground.textOnly Go.Departure.lateStores }, { on := 6, ground := Go.Ground.textOnly Go.Departure.lateStoresUnsure }, { on := 7, ground := Go.Ground.textOnly Go.Departure.lateStores }, { on := 8, ground := Go.Ground.textOnly Go.Departure.lateStoresUnsure }], none⟩ ?_ (.inl ⟨by rfl, ?_⟩) hS ?_
    rotate_left
    · (intro w hSw; (try dsimp only at hSw); go_simp; (try with_reducible rfl))
    try simp only [Act.put, sb, s0, sz]
    refine takeW 10 ⟨some 5, .assign (.tmp 21), 9, "strings.go:82", #[⟨8, .data⟩, ⟨9, .chain⟩, ⟨0, .phase⟩, ⟨1, .phase⟩, ⟨2, .phase⟩, ⟨3, .phase⟩, ⟨4, .phase⟩, ⟨5, .phase⟩, ⟨6, .phase⟩, ⟨7, .phase⟩, ⟨8, .phase⟩, ⟨9, .phase⟩], none⟩ ?_ (.inl ⟨by rfl, ?_⟩) hS ?_
    rotate_left
    · (intro w hSw; (try dsimp only at hSw); go_simp; (try with_reducible rfl))
    try simp only [Act.put, sb, s0, sz]
    refine takeW 11 ⟨some 6, .assign (.const (.bool true)), 4, "strings.go:82", #[⟨10, .chain⟩, ⟨0, .phase⟩, ⟨1, .phase⟩, ⟨2, .phase⟩, ⟨3, .phase⟩, ⟨4, .phase⟩, ⟨5, .phase⟩, ⟨6, .phase⟩, ⟨7, .phase⟩, ⟨8, .phase⟩, ⟨9, .phase⟩, ⟨10, .phase⟩], none⟩ ?_ (.inl ⟨by rfl, ?_⟩) hS ?_
    rotate_left
    · (intro w hSw; (try dsimp only at hSw); go_simp; (try with_reducible rfl))
    try simp only [Act.put, sb, s0, sz]
    refine wpAnyH_done (by kernel_rfl) ?_ _
    all_goals
      clear hS
      go_wp2
      go_ret3
      exact ⟨_, rfl, by rw [R.out]; rfl, hE.drew⟩
  | false =>
    have R := SL.hid (show cutSp s = (s, [], false) by rw [cutSp, if_neg (of_decide_eq_false h)])
    generalize Lib.indexByte s 32 = k at *
    go_enter Tryd.func75, Tryd.ntmps75
    go_wp2_with (first
      | go_skip
      | (go_at_call 80; refine (hP.out _).mono ?_; rintro e w' ⟨rfl, rfl⟩))
    go_ret3
    exact ⟨_, rfl, by rw [R.out]; rfl, hE⟩
set_option maxRecDepth 100000 in
theorem Cut_any (s : List UInt8) (hs : s.length ≤ 1000000000) {l : List HProp} {w : World} (hE : Ent l w) :
    Calls Tryd.prog 62 #[.string ⟨s.toArray⟩, .string ⟨#[32]⟩] w (Ret fun v w' => v = .tuple #[.string ⟨(cutSp s).1.toArray⟩, .string ⟨(cutSp s).2.1.toArray⟩, .bool (cutSp s).2.2] ∧ Ent l w') := by
  have hP := SL.hid (fun (w : World) (h : Ent l w) => slCut_any s hs h)
  generalize cutSp s = r at *
  go_enter Tryd.func62, Tryd.ntmps62
  go_wp2_with (first
    | go_skip
    | (go_at_call 75; refine (hP.out _ hE).mono ?_; clear hE; rintro e w' ⟨v, rfl, rfl, hE⟩))
  go_ret3
  exact ⟨_, rfl, rfl, hE⟩
set_option maxRecDepth 100000 in
theorem after_any {s p : List UInt8} (hs : s.length ≤ 1000000000) {b1 : Nat} {l : List HProp} {w : World} (hE : Ent (pt b1 (.cells #[.string ⟨s.toArray⟩] 9) :: l) w) :
    Calls Tryd.prog 60 #[.string ⟨p.toArray⟩, .pointer (some ⟨b1, 0, none⟩)] w fun e w' => e = .returned (.tuple #[.string ⟨(cutPx s p).toArray⟩, .bool (hasP s p)]) ∧ w' = w := by
  have hP := SL.hid (CutPrefix_any s p hs)
  have h0 : w.cell? ⟨b1, 0, none⟩ = some (.string ⟨s.toArray⟩) := hE.cell 0 rfl 0
  generalize cutPx s p = r at *
  generalize hasP s p = b at *
  go_enter Tryd.func60, Tryd.ntmps60
  go_wp2_with (first
    | go_skip
    | (go_at_call 61; refine (hP.out _).mono ?_; rintro e w' ⟨rfl, rfl⟩))
  go_ret2
  exact ⟨rfl, rfl⟩
/-- what a line is read as, and whether it is an entry's -/
def entryP (x : List UInt8) : En × Bool :=
  if hasP x [100, 32] = true then (⟨cutPx x [100, 32], true, []⟩, true) else
    (⟨(cutSp (cutPx x [102, 32])).1, false, (unq (cutSp (cutPx x [102, 32])).2.1).getD []⟩, hasP x [102, 32] && (cutSp (cutPx x [102, 32])).2.2 && (unq (cutSp (cutPx x [102, 32])).2.1).isSome)
def enV (x : En) : Value := .agg #[.string ⟨x.path.toArray⟩, .bool x.dir, .string ⟨x.data.toArray⟩]
theorem cutPx_len (s p : List UInt8) : (cutPx s p).length ≤ s.length := by
  unfold cutPx
  split
  · simp
  · exact Nat.le_refl _
theorem cutSp_len (s : List UInt8) : (cutSp s).1.length ≤ s.length ∧ (cutSp s).2.1.length ≤ s.length := by
  unfold cutSp
  split
  · simp
    omega
  · simp
set_option maxRecDepth 100000 in
set_option maxHeartbeats 2000000 in
theorem entryOf_any {x : List UInt8} (hx : x.length ≤ 100000000) {l : List HProp} {w : World} (hE : Ent l w) :
    Calls Tryd.prog 45 #[.string ⟨x.toArray⟩] w (Ret fun v w' => v = .tuple #[enV (entryP x).1, .bool (entryP x).2] ∧ Ent l w') := by
  have hA := SL.hid (fun (p : List UInt8) (b1 : Nat) (L : List HProp) (w : World) (h : Ent (pt b1 (.cells #[.string ⟨x.toArray⟩] 9) :: L) w) => after_any (s := x) (p := p) (by omega) h)
  have Tok := SL.hid True.intro
  cases hd : hasP x [100, 32] with
  | true =>
    have R := SL.hid (show entryP x = (⟨cutPx x [100, 32], true, []⟩, true) by rw [entryP, if_pos hd])
    have hA1 := SL.hid (hA.out [100, 32])
    rw [hd] at hA1
    generalize cutPx x [100, 32] = r at *
    clear hd hA
    go_enter Tryd.func45, Tryd.ntmps45
    go_wp2_with (first
      | go_skip
      | ((with_reducible (show Go.wpList _ _ _ (Go.Oper.mk _ (.box _ _) _ _ _ _ :: _) _ _)); refine wpl_box hE rfl rfl rfl ?_; clear hE; intro b1 w hE)
      | ((with_reducible (show Go.wpList _ _ _ (Go.Oper.mk _ (.alloc _) _ _ _ _ :: _) _ _)); refine wpl_alloc hE rfl rfl (by simp [go_sem]; rfl) ?_; clear hE; intro b2 w hE; simp only [Act.eval, Act.put, List.setIfInBounds_toArray, List.set_cons_zero, List.set_cons_succ, getD_lit, List.getD_cons_succ, List.getD_cons_zero, Value.cells] at hE)
      | (go_at_call 60; refine (hA1.out _ _ _ (hE.front 1 rfl)).mono ?_; clear hA1; rintro e w3 ⟨rfl, rfl⟩)
      | ((with_reducible (show Go.wpList _ _ _ (Go.Oper.mk _ (.store 41 _ _) _ _ _ _ :: _) _ _)); (first | (refine wpl_storeW hE 0 rfl rfl rfl (xs := [.string ⟨r.toArray⟩, .bool true, .string ⟨#[]⟩]) rfl rfl Tryd.sizeOf41 rfl (by simp [Value.oneCell']) rfl ?_) | (refine wpl_storeW hE 1 rfl rfl rfl (xs := [.string ⟨r.toArray⟩, .bool true, .string ⟨#[]⟩]) rfl rfl Tryd.sizeOf41 rfl (by simp [Value.oneCell']) rfl ?_) | (refine wpl_storeW hE 2 rfl rfl rfl (xs := [.string ⟨r.toArray⟩, .bool true, .string ⟨#[]⟩]) rfl rfl Tryd.sizeOf41 rfl (by simp [Value.oneCell']) rfl ?_) | (refine wpl_storeW hE 3 rfl rfl rfl (xs := [.string ⟨r.toArray⟩, .bool true, .string ⟨#[]⟩]) rfl rfl Tryd.sizeOf41 rfl (by simp [Value.oneCell']) rfl ?_) | (refine wpl_storeW hE 4 rfl rfl rfl (xs := [.string ⟨r.toArray⟩, .bool true, .string ⟨#[]⟩]) rfl rfl Tryd.sizeOf41 rfl (by simp [Value.oneCell']) rfl ?_) | (refine wpl_storeW hE 5 rfl rfl rfl (xs := [.string ⟨r.toArray⟩, .bool true, .string ⟨#[]⟩]) rfl rfl Tryd.sizeOf41 rfl (by simp [Value.oneCell']) rfl ?_) | (refine wpl_storeW hE 6 rfl rfl rfl (xs := [.string ⟨r.toArray⟩, .bool true, .string ⟨#[]⟩]) rfl rfl Tryd.sizeOf41 rfl (by simp [Value.oneCell']) rfl ?_) | (refine wpl_storeW hE 7 rfl rfl rfl (xs := [.string ⟨r.toArray⟩, .bool true, .string ⟨#[]⟩]) rfl rfl Tryd.sizeOf41 rfl (by simp [Value.oneCell']) rfl ?_)); clear hE; intro w hE; simp only [List.set_cons_zero, List.set_cons_succ] at hE))
    refine bodyPost_ret (results_cell2 rfl hE 0 rfl rfl Tryd.isAgg41 Tryd.sizeOf41 rfl rfl) rfl ?_
    exact ⟨_, rfl, by rw [R.out]; rfl, hE.tail.tail⟩
  | false =>
    have R := SL.hid (show entryP x = (⟨(cutSp (cutPx x [102, 32])).1, false, (unq (cutSp (cutPx x [102, 32])).2.1).getD []⟩, hasP x [102, 32] && (cutSp (cutPx x [102, 32])).2.2 && (unq (cutSp (cutPx x [102, 32])).2.1).isSome) by rw [entryP, if_neg (by rw [hd]; simp)])
    have hA1 := SL.hid (hA.out [100, 32])
    have hA2 := SL.hid (hA.out [102, 32])
    rw [hd] at hA1
    have hl1 := cutPx_len x [102, 32]
    have hl2 := cutSp_len (cutPx x [102, 32])
    have HC := SL.hid (fun (L : List HProp) (w : World) (h : Ent L w) => Cut_any (cutPx x [102, 32]) (by omega) h)
    have HU := SL.hid (fun (L : List HProp) (w : World) (h : Ent L w) => Unquote_any (s := (cutSp (cutPx x [102, 32])).2.1) (by omega) h)
    simp only [unqV] at HU
    clear hd hA hl1 hl2
    generalize hasP x [102, 32] = bA at *
    generalize cutPx x [100, 32] = r1 at *
    generalize cutPx x [102, 32] = r at *
    generalize (cutSp r).1 = pp at *
    generalize (cutSp r).2.1 = qq at *
    generalize (cutSp r).2.2 = bB at *
    generalize unq qq = o at *
    generalize o.getD [] = dd at *
    generalize o.isSome = bC at *
    cases bA <;> cases bB
    all_goals
      go_enter Tryd.func45, Tryd.ntmps45
      go_wp2_with (first
        | go_skip
        | ((with_reducible (show Go.wpList _ _ _ (Go.Oper.mk _ (.box _ _) _ _ _ _ :: _) _ _)); refine wpl_box hE rfl rfl rfl ?_; clear hE; intro b1 w hE)
        | ((with_reducible (show Go.wpList _ _ _ (Go.Oper.mk _ (.alloc _) _ _ _ _ :: _) _ _)); refine wpl_alloc hE rfl rfl (by simp [go_sem]; rfl) ?_; clear hE; intro b2 w hE; simp only [Act.eval, Act.put, List.setIfInBounds_toArray, List.set_cons_zero, List.set_cons_succ, getD_lit, List.getD_cons_succ, List.getD_cons_zero, Value.cells] at hE)
        | (go_at_call 60; refine (hA1.out _ _ _ (hE.front 1 rfl)).mono ?_; clear hA1; rintro e w3 ⟨rfl, rfl⟩)
        | (go_at_call 60; refine (hA2.out _ _ _ (hE.front 1 rfl)).mono ?_; rintro e w3 ⟨rfl, rfl⟩)
        | (go_at_call 62; refine (HC.out _ _ hE).mono ?_; clear hE; rintro e w4 ⟨v, rfl, rfl, hE⟩)
        | (go_at_call 21; refine (HU.out _ _ hE).mono ?_; clear hE; rintro e w5 ⟨v, rfl, rfl, hE⟩)
        | ((with_reducible (show Go.wpList _ _ _ (Go.Oper.mk _ (.store 41 _ _) _ _ _ _ :: _) _ _)); (first | (refine wpl_storeW hE 0 rfl rfl rfl (xs := [.string ⟨pp.toArray⟩, .bool false, .string ⟨dd.toArray⟩]) rfl rfl Tryd.sizeOf41 rfl (by simp [Value.oneCell']) rfl ?_) | (refine wpl_storeW hE 1 rfl rfl rfl (xs := [.string ⟨pp.toArray⟩, .bool false, .string ⟨dd.toArray⟩]) rfl rfl Tryd.sizeOf41 rfl (by simp [Value.oneCell']) rfl ?_) | (refine wpl_storeW hE 2 rfl rfl rfl (xs := [.string ⟨pp.toArray⟩, .bool false, .string ⟨dd.toArray⟩]) rfl rfl Tryd.sizeOf41 rfl (by simp [Value.oneCell']) rfl ?_) | (refine wpl_storeW hE 3 rfl rfl rfl (xs := [.string ⟨pp.toArray⟩, .bool false, .string ⟨dd.toArray⟩]) rfl rfl Tryd.sizeOf41 rfl (by simp [Value.oneCell']) rfl ?_) | (refine wpl_storeW hE 4 rfl rfl rfl (xs := [.string ⟨pp.toArray⟩, .bool false, .string ⟨dd.toArray⟩]) rfl rfl Tryd.sizeOf41 rfl (by simp [Value.oneCell']) rfl ?_) | (refine wpl_storeW hE 5 rfl rfl rfl (xs := [.string ⟨pp.toArray⟩, .bool false, .string ⟨dd.toArray⟩]) rfl rfl Tryd.sizeOf41 rfl (by simp [Value.oneCell']) rfl ?_) | (refine wpl_storeW hE 6 rfl rfl rfl (xs := [.string ⟨pp.toArray⟩, .bool false, .string ⟨dd.toArray⟩]) rfl rfl Tryd.sizeOf41 rfl (by simp [Value.oneCell']) rfl ?_) | (refine wpl_storeW hE 7 rfl rfl rfl (xs := [.string ⟨pp.toArray⟩, .bool false, .string ⟨dd.toArray⟩]) rfl rfl Tryd.sizeOf41 rfl (by simp [Value.oneCell']) rfl ?_)); clear hE; intro w hE; simp only [List.set_cons_zero, List.set_cons_succ] at hE))
      refine bodyPost_ret (results_cell2 rfl hE 0 rfl rfl Tryd.isAgg41 Tryd.sizeOf41 rfl rfl) rfl ?_
      exact ⟨_, rfl, by rw [R.out]; rfl, hE.tail.tail⟩
end Go.Proofs.YtjmllpgmbaoebaaDoor
namespace Go.Proofs.YtjmllpgmbaoebaaDoor
open Go.RowKit Go.SL

def atD (L : List En) (p : List UInt8) : Int := if L.findIdx (fun x => x.path == p) < L.length then ((L.findIdx (fun x => x.path == p) : Nat) : Int) else -1
theorem atD_at {L : List En} {p : List UInt8} {k : Nat} (hk : k < L.length) (h : L[k].path = p) (hb : ∀ x ∈ L.take k, x.path ≠ p) : atD L p = (k : Int) := by
  have e : L.findIdx (fun x => x.path == p) = k := by
    refine (List.findIdx_eq hk).2 ⟨by simpa using h, fun j hj => ?_⟩
    have := hb (L[j]'(by omega)) (List.mem_iff_getElem.2 ⟨j, by rw [List.length_take]; omega, by simp⟩)
    simpa using this
  rw [atD, e, if_pos hk]
theorem atD_no {L : List En} {p : List UInt8} (hb : ∀ x ∈ L, x.path ≠ p) : atD L p = -1 := by
  have e : L.findIdx (fun x => x.path == p) = L.length := List.findIdx_eq_length.2 (fun x hx => by simpa using hb x hx)
  rw [atD, e, if_neg (by omega)]
theorem atD_has (L : List En) (p : List UInt8) : decide (0 ≤ atD L p) = hasD L p := by
  rw [Bool.eq_iff_iff, decide_eq_true_iff, hasD, List.any_eq_true, atD]
  by_cases h : L.findIdx (fun x => x.path == p) < L.length
  · rw [if_pos h]
    exact ⟨fun _ => ⟨_, List.getElem_mem h, List.findIdx_getElem (w := h)⟩, fun _ => by omega⟩
  · rw [if_neg h]
    refine ⟨fun h => by omega, fun ⟨x, hx, hp⟩ => absurd (List.findIdx_lt_length_of_exists ⟨x, hx, hp⟩) h⟩
def AtRelD (L : List En) (p : List UInt8) (l : List HProp) (i : Value) (wr : World) : Prop :=
  ∃ k : Nat, k ≤ L.length ∧ i = .int .i64 k ∧ (∀ x ∈ L.take k, x.path ≠ p) ∧ Ent l wr
set_option maxRecDepth 100000 in
set_option maxHeartbeats 2000000 in
attribute [-go_sem] Instr.loadAt in
theorem at_any {L : List En} (hL : L.length ≤ 1000000) (p : List UInt8) {ao : Option Addr} {c : Nat} {l : List HProp} {w : World} (hk : Knows l (reads (.slice ao L.length c) L.length (L.flatMap enC))) (hE : Ent l w) :
    Calls Tryd.prog 49 #[.agg #[.slice ao L.length c], .string ⟨p.toArray⟩] w (Ret fun v w' => v = .int .i64 (atD L p) ∧ Ent l w') := by
  go_enter Tryd.func49, Tryd.ntmps49
  go_wp2_with (first
    | go_skip
    | ((with_reducible (show Go.wpList _ _ _ (Go.Oper.mk _ (.box _ _) _ _ _ _ :: _) _ _)); refine wpl_box hE rfl rfl rfl ?_; clear hE; intro b2 w hE; simp only [Act.eval, Act.put, List.setIfInBounds_toArray, List.set_cons_zero, List.set_cons_succ, getD_lit, List.getD_cons_succ, List.getD_cons_zero, Value.cells] at hE))
  go_loopw [5] (fun i wr => AtRelD L p (pt b2 (.cells #[.slice ao L.length c] 33) :: l) i wr) (fun i _ => L.length - (intOf i).toNat)
  case atStart => exact ⟨0, Nat.zero_le _, rfl, by simp, hE⟩
  case round =>
    clear hE
    obtain ⟨k, hkn, rfl, hin, hE⟩ := hrel
    have Hin := SL.hid hin
    clear hin
    by_cases hlt : k < L.length
    · obtain ⟨b, off, rfl, hz⟩ := en_at (hk _ hE.tail) hlt
      clear hz
      have htk := SL.hid (List.take_succ_eq_append_getElem hlt)
      have f0 := SL.hid (show ∀ w, Ent l w → _ from fun w h => (load_en (hk w h) hlt).2.1)
      have HA := SL.hid (fun (h : L[k].path = p) => atD_at (p := p) hlt h Hin.out)
      generalize L[k] = x at *
      obtain ⟨xp, xd, xb⟩ := x
      simp only at f0 HA
      have hm := mkb xp p
      cases hp : (xp == p) with
      | true =>
        obtain rfl : xp = p := by simpa using hp
        rw [hp] at hm
        go_wp2_with (first
          | go_skip
          | ((with_reducible (show Go.wpList _ _ _ (Go.Oper.mk _ (.load 9 _) _ _ _ _ :: _) _ _)); refine wpl_run rfl (w' := wr) (v := .string ⟨xp.toArray⟩) (by simp only [execOp, Act.eval]; simp [f0.out _ hE.tail]) ?_)
          | ((with_reducible (show Go.wpList _ _ _ (Go.Oper.mk _ (.load _ _) _ _ _ _ :: _) _ _)); (first | (refine wpl_load1 hE 0 rfl rfl rfl rfl (by simp [go_sem]) rfl ?_) | (refine wpl_load1 hE 1 rfl rfl rfl rfl (by simp [go_sem]) rfl ?_) | (refine wpl_load1 hE 2 rfl rfl rfl rfl (by simp [go_sem]) rfl ?_) | (refine wpl_load1 hE 3 rfl rfl rfl rfl (by simp [go_sem]) rfl ?_) | (refine wpl_load1 hE 4 rfl rfl rfl rfl (by simp [go_sem]) rfl ?_) | (refine wpl_load1 hE 5 rfl rfl rfl rfl (by simp [go_sem]) rfl ?_) | (refine wpl_load1 hE 6 rfl rfl rfl rfl (by simp [go_sem]) rfl ?_) | (refine wpl_load1 hE 7 rfl rfl rfl rfl (by simp [go_sem]) rfl ?_))))
        refine bodyPost_ret (results_tmp rfl _ _ _) rfl ?_
        exact ⟨_, rfl, by rw [HA.out trivial]; rfl, hE.tail⟩
      | false =>
        rw [hp] at hm
        go_wp2_with (first
          | go_skip
          | ((with_reducible (show Go.wpList _ _ _ (Go.Oper.mk _ (.load 9 _) _ _ _ _ :: _) _ _)); refine wpl_run rfl (w' := wr) (v := .string ⟨xp.toArray⟩) (by simp only [execOp, Act.eval]; simp [f0.out _ hE.tail]) ?_)
          | ((with_reducible (show Go.wpList _ _ _ (Go.Oper.mk _ (.load _ _) _ _ _ _ :: _) _ _)); (first | (refine wpl_load1 hE 0 rfl rfl rfl rfl (by simp [go_sem]) rfl ?_) | (refine wpl_load1 hE 1 rfl rfl rfl rfl (by simp [go_sem]) rfl ?_) | (refine wpl_load1 hE 2 rfl rfl rfl rfl (by simp [go_sem]) rfl ?_) | (refine wpl_load1 hE 3 rfl rfl rfl rfl (by simp [go_sem]) rfl ?_) | (refine wpl_load1 hE 4 rfl rfl rfl rfl (by simp [go_sem]) rfl ?_) | (refine wpl_load1 hE 5 rfl rfl rfl rfl (by simp [go_sem]) rfl ?_) | (refine wpl_load1 hE 6 rfl rfl rfl rfl (by simp [go_sem]) rfl ?_) | (refine wpl_load1 hE 7 rfl rfl rfl rfl (by simp [go_sem]) rfl ?_))))
        go_roundw
        case rel =>
          refine ⟨k + 1, hlt, by simp, ?_, hE⟩
          rw [htk.out]
          intro y hy
          rcases List.mem_append.1 hy with h | h
          · exact Hin.out y h
          · rw [List.mem_singleton.1 h]; simpa using hp
        case measure => simp [intOf]; omega
    · obtain rfl : k = L.length := by omega
      have HN := SL.hid (atD_no (p := p) (by have := Hin.out; rwa [List.take_length] at this))
      go_wp2_with (first
        | go_skip
        | ((with_reducible (show Go.wpList _ _ _ (Go.Oper.mk _ (.load _ _) _ _ _ _ :: _) _ _)); (first | (refine wpl_load1 hE 0 rfl rfl rfl rfl (by simp [go_sem]) rfl ?_) | (refine wpl_load1 hE 1 rfl rfl rfl rfl (by simp [go_sem]) rfl ?_) | (refine wpl_load1 hE 2 rfl rfl rfl rfl (by simp [go_sem]) rfl ?_) | (refine wpl_load1 hE 3 rfl rfl rfl rfl (by simp [go_sem]) rfl ?_) | (refine wpl_load1 hE 4 rfl rfl rfl rfl (by simp [go_sem]) rfl ?_) | (refine wpl_load1 hE 5 rfl rfl rfl rfl (by simp [go_sem]) rfl ?_) | (refine wpl_load1 hE 6 rfl rfl rfl rfl (by simp [go_sem]) rfl ?_) | (refine wpl_load1 hE 7 rfl rfl rfl rfl (by simp [go_sem]) rfl ?_))))
      refine bodyPost_ret (results_tmp rfl _ _ _) rfl ?_
      exact ⟨_, rfl, by rw [HN.out]; rfl, hE.tail⟩
/-- a path's parent -/
theorem par_cut {p : List UInt8} {j : Nat} (hj : j < p.length) (h : p[j] = 47) (ha : ∀ c ∈ p.drop (j + 1), c ≠ 47) : parP p = p.take j := by
  have e : p = p.take j ++ 47 :: p.drop (j + 1) := by
    conv => lhs; rw [← List.take_append_drop j p, List.drop_eq_getElem_cons hj, h]
  conv => lhs; rw [e]
  exact parP_app ha
def PaRel (p : List UInt8) (l : List HProp) (i : Value) (wr : World) : Prop :=
  ∃ k : Nat, k ≤ p.length ∧ i = .int .i64 ((k : Int) - 1) ∧ (∀ x ∈ p.drop k, x ≠ 47) ∧ Ent l wr
set_option maxRecDepth 100000 in
set_option maxHeartbeats 2000000 in
theorem Parent_any {p : List UInt8} (hp : p.length ≤ 1000000) {l : List HProp} {w : World} (hE : Ent l w) :
    Calls Tryd.prog 51 #[.string ⟨p.toArray⟩] w (Ret fun v w' => v = .string ⟨(parP p).toArray⟩ ∧ Ent l w') := by
  have hw0 : wrap64 ((p.length : Int) - 1) = (p.length : Int) - 1 := by unfold wrap64; omega
  go_enter Tryd.func51, Tryd.ntmps51
  go_wp2
  go_loopw [3] (fun i wr => PaRel p l i wr) (fun i _ => (intOf i + 1).toNat)
  case atStart => exact ⟨p.length, Nat.le_refl _, by simp, by simp, hE⟩
  case round =>
    clear hE
    obtain ⟨k, hkn, rfl, hin, hE⟩ := hrel
    have Hin := SL.hid hin
    clear hin hw0
    by_cases h0 : k = 0
    · subst h0
      have HN := SL.hid (show parP p = [] from parP_free (by have := Hin.out; rwa [List.drop_zero] at this))
      go_wp2
      refine bodyPost_ret (results_tmp rfl _ _ _) rfl ?_
      exact ⟨_, rfl, by rw [HN.out]; rfl, hE⟩
    · obtain ⟨j, rfl⟩ : ∃ j, k = j + 1 := ⟨k - 1, by omega⟩
      have hi : j < p.length := by omega
      have e1 : (((j + 1 : Nat) : Int) - 1) = (j : Int) := by omega
      have hwj : wrap64 ((j : Int) - 1) = (j : Int) - 1 := by unfold wrap64; omega
      have hix := str_at p j (by rw [bytes_size]; exact hi)
      have hex : (⟨p.toArray⟩ : ByteArray).extract 0 j = ⟨(p.take j).toArray⟩ := by rw [extract_mk]; simp
      have hgd : p.getD j 0 = p[j] := by rw [List.getD_eq_getElem?_getD, List.getElem?_eq_getElem hi]; rfl
      have HC := SL.hid (fun (h : p[j] = 47) => par_cut (p := p) hi h Hin.out)
      have HD := SL.hid (List.drop_eq_getElem_cons hi)
      rw [e1]
      rw [hgd] at hix
      clear hgd e1
      generalize p[j] = b at *
      cases h47 : ((b.toNat : Int) == 47) with
      | true =>
        have e47 : b = 47 := by
          have : b.toNat = 47 := by
            have h : (b.toNat : Int) = 47 := by simpa using h47
            omega
          rw [← UInt8.toNat_inj, this]; rfl
        go_wp2
        refine bodyPost_ret (results_tmp rfl _ _ _) rfl ?_
        exact ⟨_, rfl, by rw [HC.out e47]; rfl, hE⟩
      | false =>
        have H1 := SL.hid (show b ≠ 47 by intro e; rw [e] at h47; simp at h47)
        go_wp2
        go_roundw
        case rel =>
          refine ⟨j, by omega, by first | rfl | simp, ?_, hE⟩
          rw [HD.out]
          intro d hd
          rcases List.mem_cons.1 hd with rfl | hd
          · exact H1.out
          · exact Hin.out d hd
        case measure => simp [intOf] <;> omega
end Go.Proofs.YtjmllpgmbaoebaaDoor
namespace Go.Proofs.YtjmllpgmbaoebaaDoor
open Go.RowKit Go.SL

theorem dirD_at {L : List En} (hn : (L.map En.path).Nodup) {p : List UInt8} {k : Nat} (hk : k < L.length) (h : L[k].path = p) : dirD L p = (p == [] || L[k].dir) := by
  rw [dirD]
  congr 1
  rw [Bool.eq_iff_iff, List.any_eq_true]
  constructor
  · rintro ⟨x, hx, h2⟩
    rw [Bool.and_eq_true, beq_iff_eq] at h2
    obtain ⟨j, hj, rfl⟩ := List.getElem_of_mem hx
    have : j = k := (List.getElem_inj (h₀ := by simpa using hj) (h₁ := by simpa using hk) hn).1 (by simp [h, h2.1])
    subst this
    exact h2.2
  · intro hd
    exact ⟨_, List.getElem_mem hk, by simp [h, hd]⟩
theorem dirD_no {L : List En} {p : List UInt8} (h : atD L p = -1) : dirD L p = (p == []) := by
  have : hasD L p = false := by rw [← atD_has, h]; rfl
  rw [dirD]
  have e : (L.any fun x => x.path == p && x.dir) = false := by
    rw [hasD, List.any_eq_false] at this
    rw [List.any_eq_false]
    intro x hx
    have := this x hx
    simp only [Bool.and_eq_true, not_and]
    exact fun h => absurd h this
  rw [e, Bool.or_false]
theorem atD_form (L : List En) (p : List UInt8) : atD L p = -1 ∨ ∃ (k : Nat) (h : k < L.length), atD L p = (k : Int) ∧ L[k].path = p := by
  rw [atD]
  by_cases h : L.findIdx (fun x => x.path == p) < L.length
  · rw [if_pos h]
    exact .inr ⟨_, h, rfl, by simpa using List.findIdx_getElem (w := h)⟩
  · rw [if_neg h]; exact .inl rfl
set_option maxRecDepth 100000 in
set_option maxHeartbeats 2000000 in
attribute [-go_sem] Instr.loadAt in
theorem dir_any {L : List En} (hL : L.length ≤ 1000000) (hn : (L.map En.path).Nodup) (p : List UInt8) {ao : Option Addr} {c : Nat} {l : List HProp} {w : World} (hk : Knows l (reads (.slice ao L.length c) L.length (L.flatMap enC))) (hE : Ent l w) :
    Calls Tryd.prog 50 #[.agg #[.slice ao L.length c], .string ⟨p.toArray⟩] w (Ret fun v w' => v = .bool (dirD L p) ∧ Ent l w') := by
  have HA := SL.hid (show ∀ (A : HProp) w, Ent (A :: l) w → Calls Tryd.prog 49 #[.agg #[.slice ao L.length c], .string ⟨p.toArray⟩] w (Ret fun v w' => v = .int .i64 (atD L p) ∧ Ent (A :: l) w') from fun A w h => at_any hL p (hk.suf (List.suffix_cons _ _)) h)
  have hmb := mkb p []
  rcases atD_form L p with h1 | ⟨k, hlt, h1, h2⟩
  · rw [h1] at HA
    have HD := SL.hid (dirD_no h1)
    clear h1 hk
    cases hp : (p == []) with
    | true =>
      rw [hp] at hmb HD
      go_enter Tryd.func50, Tryd.ntmps50
      go_wp2_with (first
        | go_skip
        | ((with_reducible (show Go.wpList _ _ _ (Go.Oper.mk _ (.box _ _) _ _ _ _ :: _) _ _)); refine wpl_box hE rfl rfl rfl ?_; clear hE; intro b2 w hE; simp only [Act.eval, Act.put, List.setIfInBounds_toArray, List.set_cons_zero, List.set_cons_succ, getD_lit, List.getD_cons_succ, List.getD_cons_zero, Value.cells] at hE)
        | (go_at_call 49; refine (HA.out _ _ hE).mono ?_; clear hE; rintro e w3 ⟨v, rfl, rfl, hE⟩)
        | ((with_reducible (show Go.wpList _ _ _ (Go.Oper.mk _ (.load 33 _) _ _ _ _ :: _) _ _)); (first | (refine wpl_loadW hE 0 rfl rfl rfl rfl Tryd.isAgg33 Tryd.sizeOf33 rfl ?_) | (refine wpl_loadW hE 1 rfl rfl rfl rfl Tryd.isAgg33 Tryd.sizeOf33 rfl ?_) | (refine wpl_loadW hE 2 rfl rfl rfl rfl Tryd.isAgg33 Tryd.sizeOf33 rfl ?_) | (refine wpl_loadW hE 3 rfl rfl rfl rfl Tryd.isAgg33 Tryd.sizeOf33 rfl ?_) | (refine wpl_loadW hE 4 rfl rfl rfl rfl Tryd.isAgg33 Tryd.sizeOf33 rfl ?_) | (refine wpl_loadW hE 5 rfl rfl rfl rfl Tryd.isAgg33 Tryd.sizeOf33 rfl ?_) | (refine wpl_loadW hE 6 rfl rfl rfl rfl Tryd.isAgg33 Tryd.sizeOf33 rfl ?_) | (refine wpl_loadW hE 7 rfl rfl rfl rfl Tryd.isAgg33 Tryd.sizeOf33 rfl ?_)))
        | ((with_reducible (show Go.wpList _ _ _ (Go.Oper.mk _ (.load _ _) _ _ _ _ :: _) _ _)); (first | (refine wpl_load1 hE 0 rfl rfl rfl rfl (by simp [go_sem]) rfl ?_) | (refine wpl_load1 hE 1 rfl rfl rfl rfl (by simp [go_sem]) rfl ?_) | (refine wpl_load1 hE 2 rfl rfl rfl rfl (by simp [go_sem]) rfl ?_) | (refine wpl_load1 hE 3 rfl rfl rfl rfl (by simp [go_sem]) rfl ?_) | (refine wpl_load1 hE 4 rfl rfl rfl rfl (by simp [go_sem]) rfl ?_) | (refine wpl_load1 hE 5 rfl rfl rfl rfl (by simp [go_sem]) rfl ?_) | (refine wpl_load1 hE 6 rfl rfl rfl rfl (by simp [go_sem]) rfl ?_) | (refine wpl_load1 hE 7 rfl rfl rfl rfl (by simp [go_sem]) rfl ?_))))
      refine bodyPost_ret (results_tmp rfl _ _ _) rfl ?_
      exact ⟨_, rfl, by rw [HD.out]; rfl, hE.tail⟩
    | false =>
      rw [hp] at hmb HD
      go_enter Tryd.func50, Tryd.ntmps50
      go_wp2_with (first
        | go_skip
        | ((with_reducible (show Go.wpList _ _ _ (Go.Oper.mk _ (.box _ _) _ _ _ _ :: _) _ _)); refine wpl_box hE rfl rfl rfl ?_; clear hE; intro b2 w hE; simp only [Act.eval, Act.put, List.setIfInBounds_toArray, List.set_cons_zero, List.set_cons_succ, getD_lit, List.getD_cons_succ, List.getD_cons_zero, Value.cells] at hE)
        | (go_at_call 49; refine (HA.out _ _ hE).mono ?_; clear hE; rintro e w3 ⟨v, rfl, rfl, hE⟩)
        | ((with_reducible (show Go.wpList _ _ _ (Go.Oper.mk _ (.load 33 _) _ _ _ _ :: _) _ _)); (first | (refine wpl_loadW hE 0 rfl rfl rfl rfl Tryd.isAgg33 Tryd.sizeOf33 rfl ?_) | (refine wpl_loadW hE 1 rfl rfl rfl rfl Tryd.isAgg33 Tryd.sizeOf33 rfl ?_) | (refine wpl_loadW hE 2 rfl rfl rfl rfl Tryd.isAgg33 Tryd.sizeOf33 rfl ?_) | (refine wpl_loadW hE 3 rfl rfl rfl rfl Tryd.isAgg33 Tryd.sizeOf33 rfl ?_) | (refine wpl_loadW hE 4 rfl rfl rfl rfl Tryd.isAgg33 Tryd.sizeOf33 rfl ?_) | (refine wpl_loadW hE 5 rfl rfl rfl rfl Tryd.isAgg33 Tryd.sizeOf33 rfl ?_) | (refine wpl_loadW hE 6 rfl rfl rfl rfl Tryd.isAgg33 Tryd.sizeOf33 rfl ?_) | (refine wpl_loadW hE 7 rfl rfl rfl rfl Tryd.isAgg33 Tryd.sizeOf33 rfl ?_)))
        | ((with_reducible (show Go.wpList _ _ _ (Go.Oper.mk _ (.load _ _) _ _ _ _ :: _) _ _)); (first | (refine wpl_load1 hE 0 rfl rfl rfl rfl (by simp [go_sem]) rfl ?_) | (refine wpl_load1 hE 1 rfl rfl rfl rfl (by simp [go_sem]) rfl ?_) | (refine wpl_load1 hE 2 rfl rfl rfl rfl (by simp [go_sem]) rfl ?_) | (refine wpl_load1 hE 3 rfl rfl rfl rfl (by simp [go_sem]) rfl ?_) | (refine wpl_load1 hE 4 rfl rfl rfl rfl (by simp [go_sem]) rfl ?_) | (refine wpl_load1 hE 5 rfl rfl rfl rfl (by simp [go_sem]) rfl ?_) | (refine wpl_load1 hE 6 rfl rfl rfl rfl (by simp [go_sem]) rfl ?_) | (refine wpl_load1 hE 7 rfl rfl rfl rfl (by simp [go_sem]) rfl ?_))))
      refine bodyPost_ret (results_tmp rfl _ _ _) rfl ?_
      exact ⟨_, rfl, by rw [HD.out]; rfl, hE.tail⟩
  · rw [h1] at HA
    have HD := SL.hid (dirD_at hn hlt h2)
    obtain ⟨b, off, rfl, hz⟩ := en_at (hk _ hE) hlt
    clear hz
    have f0 := SL.hid (show ∀ w, Ent l w → _ from fun w h => (load_en (hk w h) hlt).2.2.1)
    clear h1 h2 hk
    generalize L[k].dir = xd at *
    cases hp : (p == []) with
    | true =>
      rw [hp] at hmb HD
      go_enter Tryd.func50, Tryd.ntmps50
      go_wp2_with (first
        | go_skip
        | ((with_reducible (show Go.wpList _ _ _ (Go.Oper.mk _ (.box _ _) _ _ _ _ :: _) _ _)); refine wpl_box hE rfl rfl rfl ?_; clear hE; intro b2 w hE; simp only [Act.eval, Act.put, List.setIfInBounds_toArray, List.set_cons_zero, List.set_cons_succ, getD_lit, List.getD_cons_succ, List.getD_cons_zero, Value.cells] at hE)
        | (go_at_call 49; refine (HA.out _ _ hE).mono ?_; clear hE; rintro e w3 ⟨v, rfl, rfl, hE⟩)
        | ((with_reducible (show Go.wpList _ _ _ (Go.Oper.mk _ (.load 4 _) _ _ _ _ :: _) _ _)); refine wpl_run rfl (w' := w3) (v := .bool xd) (by simp only [execOp, Act.eval]; simp [f0.out _ hE.tail]) ?_)
        | ((with_reducible (show Go.wpList _ _ _ (Go.Oper.mk _ (.load 33 _) _ _ _ _ :: _) _ _)); (first | (refine wpl_loadW hE 0 rfl rfl rfl rfl Tryd.isAgg33 Tryd.sizeOf33 rfl ?_) | (refine wpl_loadW hE 1 rfl rfl rfl rfl Tryd.isAgg33 Tryd.sizeOf33 rfl ?_) | (refine wpl_loadW hE 2 rfl rfl rfl rfl Tryd.isAgg33 Tryd.sizeOf33 rfl ?_) | (refine wpl_loadW hE 3 rfl rfl rfl rfl Tryd.isAgg33 Tryd.sizeOf33 rfl ?_) | (refine wpl_loadW hE 4 rfl rfl rfl rfl Tryd.isAgg33 Tryd.sizeOf33 rfl ?_) | (refine wpl_loadW hE 5 rfl rfl rfl rfl Tryd.isAgg33 Tryd.sizeOf33 rfl ?_) | (refine wpl_loadW hE 6 rfl rfl rfl rfl Tryd.isAgg33 Tryd.sizeOf33 rfl ?_) | (refine wpl_loadW hE 7 rfl rfl rfl rfl Tryd.isAgg33 Tryd.sizeOf33 rfl ?_)))
        | ((with_reducible (show Go.wpList _ _ _ (Go.Oper.mk _ (.load _ _) _ _ _ _ :: _) _ _)); (first | (refine wpl_load1 hE 0 rfl rfl rfl rfl (by simp [go_sem]) rfl ?_) | (refine wpl_load1 hE 1 rfl rfl rfl rfl (by simp [go_sem]) rfl ?_) | (refine wpl_load1 hE 2 rfl rfl rfl rfl (by simp [go_sem]) rfl ?_) | (refine wpl_load1 hE 3 rfl rfl rfl rfl (by simp [go_sem]) rfl ?_) | (refine wpl_load1 hE 4 rfl rfl rfl rfl (by simp [go_sem]) rfl ?_) | (refine wpl_load1 hE 5 rfl rfl rfl rfl (by simp [go_sem]) rfl ?_) | (refine wpl_load1 hE 6 rfl rfl rfl rfl (by simp [go_sem]) rfl ?_) | (refine wpl_load1 hE 7 rfl rfl rfl rfl (by simp [go_sem]) rfl ?_))))
      refine bodyPost_ret (results_tmp rfl _ _ _) rfl ?_
      exact ⟨_, rfl, by rw [HD.out]; rfl, hE.tail⟩
    | false =>
      rw [hp] at hmb HD
      go_enter Tryd.func50, Tryd.ntmps50
      go_wp2_with (first
        | go_skip
        | ((with_reducible (show Go.wpList _ _ _ (Go.Oper.mk _ (.box _ _) _ _ _ _ :: _) _ _)); refine wpl_box hE rfl rfl rfl ?_; clear hE; intro b2 w hE; simp only [Act.eval, Act.put, List.setIfInBounds_toArray, List.set_cons_zero, List.set_cons_succ, getD_lit, List.getD_cons_succ, List.getD_cons_zero, Value.cells] at hE)
        | (go_at_call 49; refine (HA.out _ _ hE).mono ?_; clear hE; rintro e w3 ⟨v, rfl, rfl, hE⟩)
        | ((with_reducible (show Go.wpList _ _ _ (Go.Oper.mk _ (.load 4 _) _ _ _ _ :: _) _ _)); refine wpl_run rfl (w' := w3) (v := .bool xd) (by simp only [execOp, Act.eval]; simp [f0.out _ hE.tail]) ?_)
        | ((with_reducible (show Go.wpList _ _ _ (Go.Oper.mk _ (.load 33 _) _ _ _ _ :: _) _ _)); (first | (refine wpl_loadW hE 0 rfl rfl rfl rfl Tryd.isAgg33 Tryd.sizeOf33 rfl ?_) | (refine wpl_loadW hE 1 rfl rfl rfl rfl Tryd.isAgg33 Tryd.sizeOf33 rfl ?_) | (refine wpl_loadW hE 2 rfl rfl rfl rfl Tryd.isAgg33 Tryd.sizeOf33 rfl ?_) | (refine wpl_loadW hE 3 rfl rfl rfl rfl Tryd.isAgg33 Tryd.sizeOf33 rfl ?_) | (refine wpl_loadW hE 4 rfl rfl rfl rfl Tryd.isAgg33 Tryd.sizeOf33 rfl ?_) | (refine wpl_loadW hE 5 rfl rfl rfl rfl Tryd.isAgg33 Tryd.sizeOf33 rfl ?_) | (refine wpl_loadW hE 6 rfl rfl rfl rfl Tryd.isAgg33 Tryd.sizeOf33 rfl ?_) | (refine wpl_loadW hE 7 rfl rfl rfl rfl Tryd.isAgg33 Tryd.sizeOf33 rfl ?_)))
        | ((with_reducible (show Go.wpList _ _ _ (Go.Oper.mk _ (.load _ _) _ _ _ _ :: _) _ _)); (first | (refine wpl_load1 hE 0 rfl rfl rfl rfl (by simp [go_sem]) rfl ?_) | (refine wpl_load1 hE 1 rfl rfl rfl rfl (by simp [go_sem]) rfl ?_) | (refine wpl_load1 hE 2 rfl rfl rfl rfl (by simp [go_sem]) rfl ?_) | (refine wpl_load1 hE 3 rfl rfl rfl rfl (by simp [go_sem]) rfl ?_) | (refine wpl_load1 hE 4 rfl rfl rfl rfl (by simp [go_sem]) rfl ?_) | (refine wpl_load1 hE 5 rfl rfl rfl rfl (by simp [go_sem]) rfl ?_) | (refine wpl_load1 hE 6 rfl rfl rfl rfl (by simp [go_sem]) rfl ?_) | (refine wpl_load1 hE 7 rfl rfl rfl rfl (by simp [go_sem]) rfl ?_))))
      refine bodyPost_ret (results_tmp rfl _ _ _) rfl ?_
      exact ⟨_, rfl, by rw [HD.out]; rfl, hE.tail⟩
/-- the places of what is right in a directory -/
def kidsFrom (p : List UInt8) : Nat → List En → List Nat
  | _, [] => []
  | n, x :: r => if parP x.path == p then n :: kidsFrom p (n + 1) r else kidsFrom p (n + 1) r
theorem kidsFrom_snoc (p : List UInt8) (x : En) : ∀ (l : List En) (n : Nat), kidsFrom p n (l ++ [x]) = kidsFrom p n l ++ (if parP x.path == p then [n + l.length] else [])
  | [], n => by simp only [List.nil_append, kidsFrom, List.length_nil, Nat.add_zero]
  | y :: r, n => by
    rw [List.cons_append, kidsFrom, kidsFrom_snoc p x r (n + 1), kidsFrom, List.length_cons, show n + (r.length + 1) = n + 1 + r.length by omega]
    split <;> simp
theorem kidsFrom_lt (p : List UInt8) : ∀ (l : List En) (n : Nat), ∀ i ∈ kidsFrom p n l, n ≤ i ∧ i < n + l.length
  | [], n => by simp [kidsFrom]
  | y :: r, n => fun i hi => by
    have ih := kidsFrom_lt p r (n + 1)
    rw [kidsFrom] at hi
    rw [List.length_cons]
    split at hi
    · rcases List.mem_cons.1 hi with rfl | h
      · omega
      · have := ih i h; omega
    · have := ih i hi; omega
theorem kidsFrom_map (p : List UInt8) (d : En) : ∀ (r l : List En), (kidsFrom p l.length r).map (fun i => (l ++ r).getD i d) = kidsD r p
  | [], l => by simp [kidsFrom, kidsD]
  | y :: r, l => by
    have ih := kidsFrom_map p d r (l ++ [y])
    rw [List.append_assoc, List.singleton_append, List.length_append, List.length_singleton] at ih
    rw [kidsFrom, kidsD, List.filter_cons]
    split
    · rw [List.map_cons, ih, kidsD]
      congr 1
      rw [List.getD_eq_getElem?_getD, List.getElem?_append_right (Nat.le_refl _), Nat.sub_self]
      rfl
    · exact ih
def kidsI (L : List En) (p : List UInt8) : List Nat := kidsFrom p 0 L
theorem kidsI_map (L : List En) (p : List UInt8) (d : En) : (kidsI L p).map (fun i => L.getD i d) = kidsD L p := kidsFrom_map p d L []
theorem kidsI_len (L : List En) (p : List UInt8) : (kidsI L p).length = (kidsD L p).length := by rw [← kidsI_map L p ⟨[], false, []⟩, List.length_map]
theorem kidsI_lt {L : List En} {p : List UInt8} {i : Nat} (h : i ∈ kidsI L p) : i < L.length := by have := kidsFrom_lt p L 0 i h; omega
end Go.Proofs.YtjmllpgmbaoebaaDoor
namespace Go.Proofs.YtjmllpgmbaoebaaDoor
open Go.RowKit Go.SL

def intv (i : Nat) : Value := .int .i64 (i : Int)
abbrev rowN (ao : Option Addr) (c : Nat) (is : List Nat) : HProp := row 3 1 (.slice ao is.length c) is.length (is.map intv)
theorem info_int : elemInfo Tryd.prog 3 = some (some 1, 1, 8) := by kernel_rfl
theorem kidsI_snoc (L : List En) (p : List UInt8) {k : Nat} (hk : k < L.length) : kidsI (L.take (k + 1)) p = kidsI (L.take k) p ++ (if parP L[k].path == p then [k] else []) := by
  rw [kidsI, List.take_succ_eq_append_getElem hk, kidsFrom_snoc, List.length_take, Nat.min_eq_left (by omega), Nat.zero_add]
  rfl
theorem kidsI_le (L : List En) (p : List UInt8) : (kidsI L p).length ≤ L.length := by
  rw [kidsI_len, kidsD]; exact List.length_filter_le _ _
def KdRel (L : List En) (p : List UInt8) (l : List HProp) (o i : Value) (wr : World) : Prop :=
  ∃ (k : Nat) (ao : Option Addr) (c : Nat), k ≤ L.length ∧ i = .int .i64 k ∧ o = .slice ao (kidsI (L.take k) p).length c ∧ Ent (rowN ao c (kidsI (L.take k) p) :: l) wr
set_option maxRecDepth 100000 in
set_option maxHeartbeats 2000000 in
attribute [-go_sem] Instr.loadAt in
theorem kids_any {L : List En} (hL : L.length ≤ 1000000) (hb : ∀ x ∈ L, x.path.length ≤ 1000000) (p : List UInt8) {ao : Option Addr} {c : Nat} {l : List HProp} {w : World} (hk : Knows l (reads (.slice ao L.length c) L.length (L.flatMap enC))) (hE : Ent l w) :
    Calls Tryd.prog 36 #[.agg #[.slice ao L.length c], .string ⟨p.toArray⟩] w (Ret fun v w' => ∃ a' c', v = .slice a' (kidsI L p).length c' ∧ Ent (rowN a' c' (kidsI L p) :: l) w') := by
  go_enter Tryd.func36, Tryd.ntmps36
  go_wp2_with (first
    | go_skip
    | ((with_reducible (show Go.wpList _ _ _ (Go.Oper.mk _ (.box _ _) _ _ _ _ :: _) _ _)); refine wpl_box hE rfl rfl rfl ?_; clear hE; intro b2 w hE; simp only [Act.eval, Act.put, List.setIfInBounds_toArray, List.set_cons_zero, List.set_cons_succ, getD_lit, List.getD_cons_succ, List.getD_cons_zero, Value.cells] at hE))
  go_loopw [5, 6] (fun o i wr => KdRel L p (pt b2 (.cells #[.slice ao L.length c] 33) :: l) o i wr) (fun _ i _ => L.length - (intOf i).toNat)
  case atStart => exact ⟨0, none, 0, Nat.zero_le _, rfl, rfl, hE.nil _ _⟩
  case round =>
    clear hE
    obtain ⟨k, ar, cr, hkn, rfl, rfl, hE⟩ := hrel
    by_cases hlt : k < L.length
    · obtain ⟨b, off, rfl, hz⟩ := en_at (hk _ hE.tail.tail) hlt
      clear hz
      have f0 := SL.hid (show ∀ w, Ent l w → _ from fun w h => (load_en (hk w h) hlt).2.1)
      have Ht := SL.hid (kidsI_snoc L p hlt)
      have hlp := SL.hid (hb _ (List.getElem_mem hlt))
      have hle := kidsI_le (L.take k) p
      rw [List.length_take] at hle
      have HP := SL.hid (fun (l : List HProp) (w : World) (h : Ent l w) => Parent_any (p := L[k].path) (hb _ (List.getElem_mem hlt)) h)
      generalize L[k] = x at *
      generalize kidsI (L.take k) p = pr at *
      obtain ⟨xp, xd, xb⟩ := x
      simp only at f0 HP
      generalize hq : parP xp = q at *
      have Hq := SL.hid hq
      have hm := mkb q p
      clear hq
      cases hp : (q == p) with
      | true =>
        rw [hp] at hm
        go_wp2_with (first
          | go_skip
          | ((with_reducible (show Go.wpList _ _ _ (Go.Oper.mk _ (.load 9 _) _ _ _ _ :: _) _ _)); refine wpl_run rfl (w' := _) (v := .string ⟨xp.toArray⟩) (by simp only [execOp, Act.eval]; simp [f0.out _ hE.tail.tail]; rfl) ?_)
          | (go_at_call 51; refine (HP.out _ _ hE).mono ?_; clear hE; rintro e w3 ⟨v, rfl, rfl, hE⟩)
          | ((with_reducible (show Go.wpList _ _ _ (Go.Oper.mk _ (.load _ _) _ _ _ _ :: _) _ _)); (first | (refine wpl_load1 hE 0 rfl rfl rfl rfl (by simp [go_sem]) rfl ?_) | (refine wpl_load1 hE 1 rfl rfl rfl rfl (by simp [go_sem]) rfl ?_) | (refine wpl_load1 hE 2 rfl rfl rfl rfl (by simp [go_sem]) rfl ?_) | (refine wpl_load1 hE 3 rfl rfl rfl rfl (by simp [go_sem]) rfl ?_) | (refine wpl_load1 hE 4 rfl rfl rfl rfl (by simp [go_sem]) rfl ?_) | (refine wpl_load1 hE 5 rfl rfl rfl rfl (by simp [go_sem]) rfl ?_) | (refine wpl_load1 hE 6 rfl rfl rfl rfl (by simp [go_sem]) rfl ?_) | (refine wpl_load1 hE 7 rfl rfl rfl rfl (by simp [go_sem]) rfl ?_)))
          | ((with_reducible (show Go.wpList _ _ _ (Go.Oper.mk _ (.call { callee := .builtin .append, args := _, argTypes := _ }) _ _ _ _ :: _) _ _)); have hE9 := hE.alloc (.cells #[.int .i64 (k : Int)] 3); refine wpl_appendG hE9 1 rfl rfl rfl rfl rfl Tryd.underlying72 info_int (by decide) (m := 1) (news := [intv k]) (reads_pt hE9 0 rfl (off := 0) (fun j u hu => by rw [Nat.zero_add, List.getElem?_toArray]; exact hu)) rfl (by simp [intv, Value.oneCell']) (by omega) (by omega) ?_; clear hE9 hE; intro ao' c' w6 hE10; simp only [List.set_cons_zero, List.set_cons_succ] at hE10))
        go_roundw
        case rel =>
          have hF := hE10.tail
          have e0 : kidsI (L.take (k + 1)) p = pr ++ [k] := by rw [Ht.out]; simp only [Hq.out, hp, if_true]
          have e1 : (pr ++ [k]).length = pr.length + 1 := by simp
          have e2 : (pr ++ [k]).map intv = pr.map intv ++ [intv k] := by simp
          refine ⟨k + 1, ao', c', hlt, by first | rfl | simp, by rw [e0, e1], by rw [e0]; simp only [rowN, e1, e2]; exact hF⟩
        case measure => simp [intOf] <;> omega
      | false =>
        rw [hp] at hm
        go_wp2_with (first
          | go_skip
          | ((with_reducible (show Go.wpList _ _ _ (Go.Oper.mk _ (.load 9 _) _ _ _ _ :: _) _ _)); refine wpl_run rfl (w' := _) (v := .string ⟨xp.toArray⟩) (by simp only [execOp, Act.eval]; simp [f0.out _ hE.tail.tail]; rfl) ?_)
          | (go_at_call 51; refine (HP.out _ _ hE).mono ?_; clear hE; rintro e w3 ⟨v, rfl, rfl, hE⟩)
          | ((with_reducible (show Go.wpList _ _ _ (Go.Oper.mk _ (.load _ _) _ _ _ _ :: _) _ _)); (first | (refine wpl_load1 hE 0 rfl rfl rfl rfl (by simp [go_sem]) rfl ?_) | (refine wpl_load1 hE 1 rfl rfl rfl rfl (by simp [go_sem]) rfl ?_) | (refine wpl_load1 hE 2 rfl rfl rfl rfl (by simp [go_sem]) rfl ?_) | (refine wpl_load1 hE 3 rfl rfl rfl rfl (by simp [go_sem]) rfl ?_) | (refine wpl_load1 hE 4 rfl rfl rfl rfl (by simp [go_sem]) rfl ?_) | (refine wpl_load1 hE 5 rfl rfl rfl rfl (by simp [go_sem]) rfl ?_) | (refine wpl_load1 hE 6 rfl rfl rfl rfl (by simp [go_sem]) rfl ?_) | (refine wpl_load1 hE 7 rfl rfl rfl rfl (by simp [go_sem]) rfl ?_))))
        go_roundw
        case rel =>
          have e0 : kidsI (L.take (k + 1)) p = pr := by rw [Ht.out]; simp [Hq.out, hp]
          exact ⟨k + 1, ar, cr, hlt, by first | rfl | simp, by rw [e0], by rw [e0]; exact hE⟩
        case measure => simp [intOf] <;> omega
    · obtain rfl : k = L.length := by omega
      rw [List.take_length] at hE ⊢
      go_wp2_with (first
        | go_skip
        | ((with_reducible (show Go.wpList _ _ _ (Go.Oper.mk _ (.load _ _) _ _ _ _ :: _) _ _)); (first | (refine wpl_load1 hE 0 rfl rfl rfl rfl (by simp [go_sem]) rfl ?_) | (refine wpl_load1 hE 1 rfl rfl rfl rfl (by simp [go_sem]) rfl ?_) | (refine wpl_load1 hE 2 rfl rfl rfl rfl (by simp [go_sem]) rfl ?_) | (refine wpl_load1 hE 3 rfl rfl rfl rfl (by simp [go_sem]) rfl ?_) | (refine wpl_load1 hE 4 rfl rfl rfl rfl (by simp [go_sem]) rfl ?_) | (refine wpl_load1 hE 5 rfl rfl rfl rfl (by simp [go_sem]) rfl ?_) | (refine wpl_load1 hE 6 rfl rfl rfl rfl (by simp [go_sem]) rfl ?_) | (refine wpl_load1 hE 7 rfl rfl rfl rfl (by simp [go_sem]) rfl ?_))))
      refine bodyPost_ret (results_tmp rfl _ _ _) rfl ?_
      exact ⟨_, rfl, ar, cr, rfl, hE.erase 1⟩
end Go.Proofs.YtjmllpgmbaoebaaDoor
namespace Go.Proofs.YtjmllpgmbaoebaaDoor
open Go.RowKit Go.SL

def RsRel (p : List UInt8) (l : List HProp) (o fr i : Value) (wr : World) : Prop :=
  ∃ (pre : List (List UInt8)) (f k : Nat) (ao : Option Addr) (c : Nat), o = .slice ao pre.length c ∧ fr = .int .i64 f ∧ i = .int .i64 k ∧ pre.all isName = true ∧ pre.length ≤ k ∧ k ≤ p.length + 1 ∧
    ((f ≤ k ∧ k ≤ p.length ∧ cuts p = pre ++ cuts (p.drop f) ∧ ∀ b ∈ (p.drop f).take (k - f), b ≠ 47) ∨ (k = p.length + 1 ∧ cuts p = pre)) ∧ Ent (rowS ao c pre :: l) wr
theorem slash_next {p : List UInt8} {f k : Nat} (hf : f ≤ k) (hk : k < p.length) : (p.drop f).take (k + 1 - f) = (p.drop f).take (k - f) ++ [p.getD k 0] := by
  have h : k - f < (p.drop f).length := by rw [List.length_drop]; omega
  rw [show k + 1 - f = (k - f) + 1 by omega, List.take_succ_eq_append_getElem h, List.getElem_drop]
  congr 2
  rw [List.getD_eq_getElem?_getD, List.getElem?_eq_getElem hk]
  simp [show f + (k - f) = k by omega]
theorem slash_cut {p : List UInt8} {f k : Nat} (hf : f ≤ k) (hk : k < p.length) (h : p.getD k 0 = 47) (ha : ∀ b ∈ (p.drop f).take (k - f), b ≠ 47) : cuts (p.drop f) = (p.drop f).take (k - f) :: cuts (p.drop (k + 1)) := by
  have e : p.drop f = (p.drop f).take (k - f) ++ 47 :: p.drop (k + 1) := by
    have h2 := slash_next hf hk
    rw [h] at h2
    have h3 := (List.take_append_drop (k + 1 - f) (p.drop f)).symm
    rw [List.drop_drop, show f + (k + 1 - f) = k + 1 by omega, h2, List.append_assoc] at h3
    exact h3
  conv => lhs; rw [e]
  exact cuts_app _ ha
theorem slash_last {p : List UInt8} {f : Nat} (hf : f ≤ p.length) (ha : ∀ b ∈ (p.drop f).take (p.length - f), b ≠ 47) : (p.drop f).take (p.length - f) = p.drop f ∧ cuts (p.drop f) = [p.drop f] := by
  have e : (p.drop f).take (p.length - f) = p.drop f := List.take_of_length_le (by rw [List.length_drop]; omega)
  rw [e] at ha
  exact ⟨e, cuts_free ha⟩

set_option maxRecDepth 100000 in
set_option maxHeartbeats 4000000 in
theorem rSplit_any {p : List UInt8} (hp : p.length ≤ 1000000) {l : List HProp} {w : World} (hE : Ent l w) :
    Calls Tryd.prog 48 #[.string ⟨p.toArray⟩] w (Ret fun v w' => ∃ ao c, v = .tuple #[.slice ao (splitL p).length c, .int .i64 (splitE p)] ∧ Ent (rowS ao c (splitL p) :: l) w') := by
  by_cases h0 : p = []
  · subst h0
    go_enter Tryd.func48, Tryd.ntmps48
    go_wp2
    go_ret2
    exact ⟨_, rfl, none, 0, rfl, hE.nil _ _⟩
  have hne : (p == []) = false := by simpa using h0
  go_enter Tryd.func48, Tryd.ntmps48
  go_wp2
  go_loopw [4, 5, 6] (fun o fr i wr => RsRel p l o fr i wr) (fun _ _ i _ => p.length + 1 - (intOf i).toNat)
  case atStart => exact ⟨[], 0, 0, none, 0, rfl, rfl, rfl, rfl, Nat.le_refl _, Nat.zero_le _, .inl ⟨Nat.le_refl _, Nat.zero_le _, rfl, by simp⟩, hE.nil _ _⟩
  case round =>
    clear hE
    obtain ⟨pre, f, k, ao, c, rfl, rfl, rfl, hall, hpk, hkl, hst, hE⟩ := hrel
    have Hall := SL.hid hall
    clear hall
    by_cases hlt : k ≤ p.length
    · obtain ⟨hf, _, hc, ha⟩ := hst.resolve_right (by rintro ⟨h, _⟩; omega)
      clear hst
      have hwk : wrap64 ((k : Int) + 1) = ((k + 1 : Nat) : Int) := by unfold wrap64; omega
      have hex : (⟨p.toArray⟩ : ByteArray).extract f k = ⟨((p.drop f).take (k - f)).toArray⟩ := extract_mk p f k
      have hN := fun w => rName_any ((p.drop f).take (k - f)) (by rw [List.length_take, List.length_drop]; omega) w
      by_cases hi : k < p.length
      · have hix := str_at p k (by rw [bytes_size]; exact hi)
        have Hnx := SL.hid (slash_next hf hi)
        have Hct := SL.hid (slash_cut hf hi)
        cases h47 : (((p.getD k 0).toNat : Int) != 47) with
        | true =>
          have H1 := SL.hid (show p.getD k 0 ≠ 47 by intro e; rw [e] at h47; simp at h47)
          have Hc := SL.hid hc
          have Ha := SL.hid ha
          clear hc ha hex hN
          generalize p.getD k 0 = b at *
          go_wp2
          go_roundw
          case rel =>
            refine ⟨pre, f, k + 1, ao, c, rfl, rfl, by first | rfl | simp, Hall.out, by omega, by omega, .inl ⟨by omega, by omega, Hc.out, ?_⟩, hE⟩
            rw [Hnx.out]
            intro d hd
            simp only [List.mem_append, List.mem_singleton] at hd
            rcases hd with hd | rfl
            · exact Ha.out d hd
            · exact H1.out
          case measure => simp [intOf] <;> omega
        | false =>
          have e47 : p.getD k 0 = 47 := by
            have : (p.getD k 0).toNat = 47 := by
              have h : ((p.getD k 0).toNat : Int) = 47 := by simpa using h47
              omega
            rw [← UInt8.toNat_inj, this]; rfl
          have Hcc := SL.hid (show cuts p = (pre ++ [(p.drop f).take (k - f)]) ++ cuts (p.drop (k + 1)) by rw [hc, Hct.out e47 ha]; simp)
          have hlx : ((p.drop f).take (k - f)).length ≤ 1000000 := by rw [List.length_take, List.length_drop]; omega
          clear hc ha Hct Hnx
          generalize (p.drop f).take (k - f) = x at *
          generalize p.getD k 0 = b at *
          cases hn : isName x with
          | false =>
            rw [hn] at hN
            have R := SL.hid (split_bad h0 (x := x) (by rw [Hcc.out]; simp) hn)
            clear hn
            go_wp2_with (first
              | go_skip
              | (go_at_call 38; refine (hN _).mono ?_; rintro e w2 ⟨rfl, rfl⟩))
            go_ret2
            exact ⟨_, rfl, none, 0, by rw [R.out.1, R.out.2]; rfl, by rw [R.out.1]; exact hE.tail.nil _ _⟩
          | true =>
            rw [hn] at hN
            have Hn := SL.hid (show (pre ++ [x]).all isName = true by rw [List.all_append, Hall.out]; simp [hn])
            clear hn
            go_wp2_with (first
              | go_skip
              | (go_at_call 38; refine (hN _).mono ?_; rintro e w2 ⟨rfl, rfl⟩)
              | ((with_reducible (show Go.wpList _ _ _ (Go.Oper.mk _ (.call { callee := .builtin .append, args := _, argTypes := _ }) _ _ _ _ :: _) _ _)); have hE9 := hE.alloc (.cells #[.string ⟨x.toArray⟩] 9); refine wpl_appendG hE9 1 rfl rfl rfl rfl rfl Tryd.underlying23 info_str (by decide) (m := 1) (news := [strv x]) (reads_pt hE9 0 rfl (off := 0) (fun j u hu => by rw [Nat.zero_add, List.getElem?_toArray]; exact hu)) rfl (by simp [strv, Value.oneCell']) (by omega) (by omega) ?_; clear hE9 hE; intro ao' c' w6 hE10; simp only [List.set_cons_zero, List.set_cons_succ] at hE10))
            go_roundw
            case measure => simp [intOf] <;> omega
            case rel =>
              have hF := hE10.tail
              have e1 : (pre ++ [x]).length = pre.length + 1 := by simp
              have e2 : (pre ++ [x]).map strv = pre.map strv ++ [strv x] := by simp
              refine ⟨pre ++ [x], k + 1, k + 1, ao', c', by rw [e1], by first | rfl | simp, by first | rfl | simp, Hn.out, by rw [e1]; omega, by omega, .inl ⟨Nat.le_refl _, by omega, Hcc.out, by simp⟩, by simp only [rowS, e1, e2]; exact hF⟩
      · obtain rfl : k = p.length := by omega
        obtain ⟨ex, ec⟩ := slash_last hf ha
        have Hcc := SL.hid (show cuts p = pre ++ [(p.drop f).take (p.length - f)] by rw [hc, ec, ex])
        have hlx : ((p.drop f).take (p.length - f)).length ≤ 1000000 := by rw [List.length_take, List.length_drop]; omega
        clear hc ha ex ec
        generalize (p.drop f).take (p.length - f) = x at *
        cases hn : isName x with
        | false =>
          rw [hn] at hN
          have R := SL.hid (split_bad h0 (x := x) (by rw [Hcc.out]; simp) hn)
          clear hn
          go_wp2_with (first
            | go_skip
            | (go_at_call 38; refine (hN _).mono ?_; rintro e w2 ⟨rfl, rfl⟩))
          go_ret2
          exact ⟨_, rfl, none, 0, by rw [R.out.1, R.out.2]; rfl, by rw [R.out.1]; exact hE.tail.nil _ _⟩
        | true =>
          rw [hn] at hN
          have Hn := SL.hid (show (pre ++ [x]).all isName = true by rw [List.all_append, Hall.out]; simp [hn])
          clear hn
          go_wp2_with (first
            | go_skip
            | (go_at_call 38; refine (hN _).mono ?_; rintro e w2 ⟨rfl, rfl⟩)
            | ((with_reducible (show Go.wpList _ _ _ (Go.Oper.mk _ (.call { callee := .builtin .append, args := _, argTypes := _ }) _ _ _ _ :: _) _ _)); have hE9 := hE.alloc (.cells #[.string ⟨x.toArray⟩] 9); refine wpl_appendG hE9 1 rfl rfl rfl rfl rfl Tryd.underlying23 info_str (by decide) (m := 1) (news := [strv x]) (reads_pt hE9 0 rfl (off := 0) (fun j u hu => by rw [Nat.zero_add, List.getElem?_toArray]; exact hu)) rfl (by simp [strv, Value.oneCell']) (by omega) (by omega) ?_; clear hE9 hE; intro ao' c' w6 hE10; simp only [List.set_cons_zero, List.set_cons_succ] at hE10))
          go_roundw
          case measure => simp [intOf] <;> omega
          case rel =>
            have hF := hE10.tail
            have e1 : (pre ++ [x]).length = pre.length + 1 := by simp
            have e2 : (pre ++ [x]).map strv = pre.map strv ++ [strv x] := by simp
            refine ⟨pre ++ [x], p.length + 1, p.length + 1, ao', c', by rw [e1], by first | rfl | simp, by first | rfl | simp, Hn.out, by rw [e1]; omega, by omega, .inr ⟨by omega, by rw [Hcc.out]⟩, by simp only [rowS, e1, e2]; exact hF⟩
    · obtain ⟨_, hc⟩ := hst.resolve_left (by rintro ⟨_, h, _⟩; omega)
      have hall := Hall.out
      rw [← hc] at hall hE ⊢
      by_cases h6 : (cuts p).length ≤ 6
      · have R := SL.hid (split_good h0 hall h6)
        have hd : decide ((6 : Int) < ((cuts p).length : Int)) = false := decide_eq_false (by omega)
        clear h6 hall hc hst
        go_wp2
        go_ret2
        exact ⟨_, rfl, ao, c, by rw [R.out.1, R.out.2]; rfl, by rw [R.out.1]; exact hE⟩
      · have R := SL.hid (split_many h0 hall h6)
        have hd : (6 : Int) < ((cuts p).length : Int) := by omega
        clear h6 hall hc hst
        go_wp2
        go_ret2
        exact ⟨_, rfl, none, 0, by rw [R.out.1, R.out.2]; rfl, by rw [R.out.1]; exact hE.tail.nil _ _⟩
end Go.Proofs.YtjmllpgmbaoebaaDoor
