/-
  Calls of the document as the program has them; are they too great?
-/
import Derived.Test.YtohdljcpaogokaaSeB
import Derived.Test.YtohdljcpaogokaaSeD
import Derived.Test.YtohdljcpaogokaaFr
import Derived.Lib.SmallJoins
namespace Go.Proofs.Ytohdljcpaogokaa
open Go.RowKit Go.SL

theorem info_pcall : elemInfo Try.prog 87 = some (some 6, 6, 88) := by kernel_rfl
def OfR (vs : List SV) (l : List HProp) (r i : Value) (wr : World) : Prop := ∃ (k : Nat) (ao : Option Addr) (c : Nat), k ≤ vs.length ∧ i = .int .i64 k ∧ r = .slice ao k c ∧ Ent (row 87 6 (.slice ao k c) k (svCells (vs.take k)) :: l) wr

set_option maxRecDepth 100000 in
set_option maxHeartbeats 2000000 in
theorem Of27_any {vs : List SV} {ai : Option Addr} {ci : Nat} {l : List HProp} {w : World} (hE : Ent l w) (hn : vs.length ≤ 100000) (hk : Knows l (reads (.slice ai vs.length ci) vs.length (svCells vs))) :
    Calls Try.prog 12 #[.slice ai vs.length ci] w (Ret fun v w' => ∃ ao c, v = .slice ao vs.length c ∧ Ent (row 87 6 (.slice ao vs.length c) vs.length (svCells vs) :: l) w') := by
  go_enter Try.func12, Try.ntmps12
  go_wp2
  go_loopw [3, 4] (fun r i wr => OfR vs l r i wr) (fun _ i _ => vs.length - (intOf i).toNat)
  case atStart => exact ⟨0, none, 0, Nat.zero_le _, rfl, rfl, hE.nil _ _⟩
  case round =>
    clear hE
    obtain ⟨k, ao, c, hkl, rfl, rfl, hE⟩ := hrel
    by_cases hlt : k < vs.length
    · obtain ⟨bt, off, rfl, _⟩ := reads_form (hk _ hE.tail) (by omega) (by rw [svCells_len]; omega)
      have Hcx := SL.hid (sv_cells (hk _ hE.tail) hlt)
      have Hs := SL.hid (show svCells (vs.take (k + 1)) = svCells (vs.take k) ++ vs[k].cells by rw [svCells, List.take_succ_eq_append_getElem hlt, List.flatMap_append]; simp [svCells])
      generalize vs[k] = v at *
      generalize svCells (vs.take k) = xs at *
      obtain ⟨x, aox, cx⟩ := v
      simp only [SV.cells, xcells] at Hcx Hs
      generalize x.do_.toNat = dn at *
      generalize x.acts = ac at *
      generalize x.tree.length = n at *
      go_wp2_with (first
        | go_skip
        | ((with_reducible (show Go.wpList _ _ _ (Go.Oper.mk _ (.load 84 _) _ _ _ _ :: _) _ _)); refine wpl_loadC rfl rfl rfl Try.isAgg84 Try.sizeOf84 [.int .u8 dn, .string ⟨x.name.toArray⟩, .string ⟨x.path.toArray⟩, .slice aox n cx, .int .u16 ac, .string ⟨x.keep.toArray⟩] rfl Hcx.out ?_)
        | ((with_reducible (show Go.wpList _ _ _ (Go.Oper.mk _ (.alloc _) _ _ _ _ :: _) _ _)); refine wpl_alloc hE rfl rfl (by simp [go_sem]; rfl) ?_; clear hE; intro b5 w1 hE1)
        | ((with_reducible (show Go.wpList _ _ _ (Go.Oper.mk _ (.store _ _ _) _ _ _ _ :: _) _ _)); refine wpl_storeW hE1 0 rfl rfl rfl (xs := [.int .u8 dn, .string ⟨x.name.toArray⟩, .string ⟨x.path.toArray⟩, .slice aox n cx, .int .u16 ac, .string ⟨x.keep.toArray⟩]) rfl rfl Try.sizeOf84 rfl (by simp [Value.oneCell']) rfl ?_; clear hE1; intro w2 hE; simp only [List.set_cons_zero, List.set_cons_succ] at hE)
        | ((with_reducible (show Go.wpList _ _ _ (Go.Oper.mk _ (.load _ _) _ _ _ _ :: _) _ _)); refine wpl_load1 hE 0 rfl rfl rfl rfl (by simp [go_sem]) rfl ?_)
        | ((with_reducible (show Go.wpList _ _ _ (Go.Oper.mk _ (.buildSlice _ _ _) _ _ _ _ :: _) _ _)); refine wpl_build1 hE rfl rfl (xs := [.int .u8 dn, .string ⟨x.name.toArray⟩, .string ⟨x.path.toArray⟩, .slice aox n cx, .int .u16 ac, .string ⟨x.keep.toArray⟩]) rfl Try.underlying28 (size := 6) (by kernel_rfl) Try.sizeOf87 (by decide) (by decide) rfl ?_; clear hE; intro bn w5 hE5)
        | ((with_reducible (show Go.wpList _ _ _ (Go.Oper.mk _ (.call _) _ _ _ _ :: _) _ _)); refine wpl_appendG hE5 2 rfl rfl rfl rfl rfl Try.underlying28 info_pcall (by decide) (m := 1) (news := [.int .u8 dn, .string ⟨x.name.toArray⟩, .string ⟨x.path.toArray⟩, .slice aox n cx, .int .u16 ac, .string ⟨x.keep.toArray⟩]) (reads_pt hE5 0 rfl (off := 0) (fun j u hu => by simpa using hu)) rfl (by simp [Value.oneCell']) (by omega) (by omega) ?_; clear hE5; intro ao' c' w6 hE6; simp only [List.set_cons_zero, List.set_cons_succ] at hE6))
      go_roundw
      case rel => exact ⟨k + 1, ao', c', hlt, by simp, rfl, by rw [Hs.out]; exact hE6.tail.tail⟩
      case measure => simp [intOf]; omega
    · have e : k = vs.length := by omega
      subst e
      rw [List.take_length] at hE
      go_wp2
      go_ret
      exact ⟨_, rfl, ao, c, rfl, hE⟩

def bndE (x : SE) : Prop := (x.name.length ≤ 400 ∧ x.path.length ≤ 400 ∧ x.keep.length ≤ 400) ∧ x.tree.length ≤ 300 ∧ ∀ y ∈ x.tree, y.path.length ≤ 400 ∧ y.data.length ≤ 70000
theorem bnd_okb {x : SE} (hg : x.good) (h : bndE x) : x.okb := by
  obtain ⟨⟨h1, h2, h3⟩, h4, h5⟩ := h
  exact ⟨hg, ⟨by omega, by omega, by omega⟩, by omega, fun y hy => by have := h5 y hy; omega⟩
def GrPost (vs : List SV) (v : Value) : Prop := ∃ g, v = .bool g ∧ (g = false → vs.length ≤ 100 ∧ ∀ v ∈ vs, bndE v.x)
def GrO (vs : List SV) (l : List HProp) (s i : Value) (wr : World) : Prop := ∃ (k : Nat) (a : Int), k ≤ vs.length ∧ s = .int .i64 a ∧ i = .int .i64 k ∧ (∀ v ∈ vs.take k, bndE v.x) ∧ Ent l wr
def GrI (t : List TE) (l : List HProp) (s i : Value) (wr : World) : Prop := ∃ (k : Nat) (a : Int), k ≤ t.length ∧ s = .int .i64 a ∧ i = .int .i64 k ∧ (∀ y ∈ t.take k, y.path.length ≤ 400 ∧ y.data.length ≤ 70000) ∧ Ent l wr

set_option maxRecDepth 100000 in
set_option maxHeartbeats 4000000 in
theorem Great27_any {vs : List SV} {ai : Option Addr} {ci : Nat} {l : List HProp} {w : World} (hE : Ent l w) (hk : Knows l (reads (.slice ai vs.length ci) vs.length (svCells vs))) (hkt : ∀ v ∈ vs, v.known l) :
    Calls Try.prog 9 #[.slice ai vs.length ci] w (Ret fun v w' => GrPost vs v ∧ Ent l w') := by
  have Hkt := SL.hid hkt
  clear hkt
  by_cases h1 : (100 : Int) < (vs.length : Int)
  · go_enter Try.func9, Try.ntmps9
    go_wp2
    go_ret
    exact ⟨_, rfl, ⟨true, rfl, by simp⟩, hE⟩
  have hn : vs.length ≤ 100 := by omega
  have hd : decide ((100 : Int) < (vs.length : Int)) = false := decide_eq_false h1
  clear h1
  go_enter Try.func9, Try.ntmps9
  go_wp2
  clear hd
  go_loopw [3, 4] (fun s i wr => GrO vs l s i wr) (fun _ i _ => vs.length - (intOf i).toNat)
  case atStart => exact ⟨0, 0, Nat.zero_le _, rfl, rfl, by simp, hE⟩
  case round =>
    clear hE
    obtain ⟨k, a, hkl, rfl, rfl, hall, hE⟩ := hrel
    have Hall := SL.hid hall
    clear hall
    by_cases hlt : k < vs.length
    · obtain ⟨bt, off, rfl, _⟩ := reads_form (hk _ hE) (by omega) (by rw [svCells_len]; omega)
      have Hcx := SL.hid (sv_cells (hk _ hE) hlt)
      have Hkv := SL.hid (Hkt.out _ (List.getElem_mem hlt))
      have Hs := SL.hid (show bndE vs[k].x → ∀ v ∈ vs.take (k + 1), bndE v.x from fun h v hv => by
        rw [List.take_succ_eq_append_getElem hlt, List.mem_append, List.mem_singleton] at hv
        rcases hv with hv | rfl
        · exact Hall.out v hv
        · exact h)
      clear Hall
      generalize vs[k] = v at *
      obtain ⟨x, aox, cx⟩ := v
      obtain ⟨d, name, path, tree, acts, keep⟩ := x
      simp only [SV.cells, SV.known, xcells] at Hcx Hkv Hs
      generalize d.toNat = dn at *
      by_cases hb : (400 : Int) < (name.length : Int) ∨ (400 : Int) < (path.length : Int) ∨ (400 : Int) < (keep.length : Int) ∨ (300 : Int) < (tree.length : Int)
      · have step : ∀ {b5 : Nat} {w : World}, True := fun {_ _} => trivial
        clear step
        by_cases c1 : (400 : Int) < (name.length : Int)
        · clear hb
          go_wp2_with (first
            | go_skip
            | ((with_reducible (show Go.wpList _ _ _ (Go.Oper.mk _ (.load 84 _) _ _ _ _ :: _) _ _)); refine wpl_loadC rfl rfl rfl Try.isAgg84 Try.sizeOf84 [.int .u8 dn, .string ⟨name.toArray⟩, .string ⟨path.toArray⟩, .slice aox tree.length cx, .int .u16 acts, .string ⟨keep.toArray⟩] rfl Hcx.out ?_)
            | ((with_reducible (show Go.wpList _ _ _ (Go.Oper.mk _ (.alloc _) _ _ _ _ :: _) _ _)); refine wpl_alloc hE rfl rfl (by simp [go_sem]; rfl) ?_; clear hE; intro b5 w1 hE1)
            | ((with_reducible (show Go.wpList _ _ _ (Go.Oper.mk _ (.store _ _ _) _ _ _ _ :: _) _ _)); refine wpl_storeW hE1 0 rfl rfl rfl (xs := [.int .u8 dn, .string ⟨name.toArray⟩, .string ⟨path.toArray⟩, .slice aox tree.length cx, .int .u16 acts, .string ⟨keep.toArray⟩]) rfl rfl Try.sizeOf84 rfl (by simp [Value.oneCell']) rfl ?_; clear hE1; intro w2 hE; simp only [List.set_cons_zero, List.set_cons_succ] at hE)
            | ((with_reducible (show Go.wpList _ _ _ (Go.Oper.mk _ (.load _ _) _ _ _ _ :: _) _ _)); refine wpl_load1 hE 0 rfl rfl rfl rfl (by simp [go_sem]) rfl ?_))
          go_ret
          exact ⟨_, rfl, ⟨true, rfl, by simp⟩, hE.tail⟩
        replace hb := hb.resolve_left c1
        have d1 : decide ((400 : Int) < (name.length : Int)) = false := decide_eq_false c1
        clear c1
        by_cases c2 : (400 : Int) < (path.length : Int)
        · clear hb
          go_wp2_with (first
            | go_skip
            | ((with_reducible (show Go.wpList _ _ _ (Go.Oper.mk _ (.load 84 _) _ _ _ _ :: _) _ _)); refine wpl_loadC rfl rfl rfl Try.isAgg84 Try.sizeOf84 [.int .u8 dn, .string ⟨name.toArray⟩, .string ⟨path.toArray⟩, .slice aox tree.length cx, .int .u16 acts, .string ⟨keep.toArray⟩] rfl Hcx.out ?_)
            | ((with_reducible (show Go.wpList _ _ _ (Go.Oper.mk _ (.alloc _) _ _ _ _ :: _) _ _)); refine wpl_alloc hE rfl rfl (by simp [go_sem]; rfl) ?_; clear hE; intro b5 w1 hE1)
            | ((with_reducible (show Go.wpList _ _ _ (Go.Oper.mk _ (.store _ _ _) _ _ _ _ :: _) _ _)); refine wpl_storeW hE1 0 rfl rfl rfl (xs := [.int .u8 dn, .string ⟨name.toArray⟩, .string ⟨path.toArray⟩, .slice aox tree.length cx, .int .u16 acts, .string ⟨keep.toArray⟩]) rfl rfl Try.sizeOf84 rfl (by simp [Value.oneCell']) rfl ?_; clear hE1; intro w2 hE; simp only [List.set_cons_zero, List.set_cons_succ] at hE)
            | ((with_reducible (show Go.wpList _ _ _ (Go.Oper.mk _ (.load _ _) _ _ _ _ :: _) _ _)); refine wpl_load1 hE 0 rfl rfl rfl rfl (by simp [go_sem]) rfl ?_))
          go_ret
          exact ⟨_, rfl, ⟨true, rfl, by simp⟩, hE.tail⟩
        replace hb := hb.resolve_left c2
        have d2 : decide ((400 : Int) < (path.length : Int)) = false := decide_eq_false c2
        clear c2
        by_cases c3 : (400 : Int) < (keep.length : Int)
        · clear hb
          go_wp2_with (first
            | go_skip
            | ((with_reducible (show Go.wpList _ _ _ (Go.Oper.mk _ (.load 84 _) _ _ _ _ :: _) _ _)); refine wpl_loadC rfl rfl rfl Try.isAgg84 Try.sizeOf84 [.int .u8 dn, .string ⟨name.toArray⟩, .string ⟨path.toArray⟩, .slice aox tree.length cx, .int .u16 acts, .string ⟨keep.toArray⟩] rfl Hcx.out ?_)
            | ((with_reducible (show Go.wpList _ _ _ (Go.Oper.mk _ (.alloc _) _ _ _ _ :: _) _ _)); refine wpl_alloc hE rfl rfl (by simp [go_sem]; rfl) ?_; clear hE; intro b5 w1 hE1)
            | ((with_reducible (show Go.wpList _ _ _ (Go.Oper.mk _ (.store _ _ _) _ _ _ _ :: _) _ _)); refine wpl_storeW hE1 0 rfl rfl rfl (xs := [.int .u8 dn, .string ⟨name.toArray⟩, .string ⟨path.toArray⟩, .slice aox tree.length cx, .int .u16 acts, .string ⟨keep.toArray⟩]) rfl rfl Try.sizeOf84 rfl (by simp [Value.oneCell']) rfl ?_; clear hE1; intro w2 hE; simp only [List.set_cons_zero, List.set_cons_succ] at hE)
            | ((with_reducible (show Go.wpList _ _ _ (Go.Oper.mk _ (.load _ _) _ _ _ _ :: _) _ _)); refine wpl_load1 hE 0 rfl rfl rfl rfl (by simp [go_sem]) rfl ?_))
          go_ret
          exact ⟨_, rfl, ⟨true, rfl, by simp⟩, hE.tail⟩
        replace hb := hb.resolve_left c3
        have d3 : decide ((400 : Int) < (keep.length : Int)) = false := decide_eq_false c3
        clear c3
        go_wp2_with (first
          | go_skip
          | ((with_reducible (show Go.wpList _ _ _ (Go.Oper.mk _ (.load 84 _) _ _ _ _ :: _) _ _)); refine wpl_loadC rfl rfl rfl Try.isAgg84 Try.sizeOf84 [.int .u8 dn, .string ⟨name.toArray⟩, .string ⟨path.toArray⟩, .slice aox tree.length cx, .int .u16 acts, .string ⟨keep.toArray⟩] rfl Hcx.out ?_)
          | ((with_reducible (show Go.wpList _ _ _ (Go.Oper.mk _ (.alloc _) _ _ _ _ :: _) _ _)); refine wpl_alloc hE rfl rfl (by simp [go_sem]; rfl) ?_; clear hE; intro b5 w1 hE1)
          | ((with_reducible (show Go.wpList _ _ _ (Go.Oper.mk _ (.store _ _ _) _ _ _ _ :: _) _ _)); refine wpl_storeW hE1 0 rfl rfl rfl (xs := [.int .u8 dn, .string ⟨name.toArray⟩, .string ⟨path.toArray⟩, .slice aox tree.length cx, .int .u16 acts, .string ⟨keep.toArray⟩]) rfl rfl Try.sizeOf84 rfl (by simp [Value.oneCell']) rfl ?_; clear hE1; intro w2 hE; simp only [List.set_cons_zero, List.set_cons_succ] at hE)
          | ((with_reducible (show Go.wpList _ _ _ (Go.Oper.mk _ (.load _ _) _ _ _ _ :: _) _ _)); refine wpl_load1 hE 0 rfl rfl rfl rfl (by simp [go_sem]) rfl ?_))
        go_ret
        exact ⟨_, rfl, ⟨true, rfl, by simp⟩, hE.tail⟩
      have htl : tree.length ≤ 300 := by omega
      have Hb := SL.hid (show name.length ≤ 400 ∧ path.length ≤ 400 ∧ keep.length ≤ 400 by omega)
      have d1 : decide ((400 : Int) < (name.length : Int)) = false := decide_eq_false (by omega)
      have d2 : decide ((400 : Int) < (path.length : Int)) = false := decide_eq_false (by omega)
      have d3 : decide ((400 : Int) < (keep.length : Int)) = false := decide_eq_false (by omega)
      have d4 : decide ((300 : Int) < (tree.length : Int)) = false := decide_eq_false (by omega)
      clear hb
      go_wp2_with (first
        | go_skip
        | ((with_reducible (show Go.wpList _ _ _ (Go.Oper.mk _ (.load 84 _) _ _ _ _ :: _) _ _)); refine wpl_loadC rfl rfl rfl Try.isAgg84 Try.sizeOf84 [.int .u8 dn, .string ⟨name.toArray⟩, .string ⟨path.toArray⟩, .slice aox tree.length cx, .int .u16 acts, .string ⟨keep.toArray⟩] rfl Hcx.out ?_)
        | ((with_reducible (show Go.wpList _ _ _ (Go.Oper.mk _ (.alloc _) _ _ _ _ :: _) _ _)); refine wpl_alloc hE rfl rfl (by simp [go_sem]; rfl) ?_; clear hE; intro b5 w1 hE1)
        | ((with_reducible (show Go.wpList _ _ _ (Go.Oper.mk _ (.store _ _ _) _ _ _ _ :: _) _ _)); refine wpl_storeW hE1 0 rfl rfl rfl (xs := [.int .u8 dn, .string ⟨name.toArray⟩, .string ⟨path.toArray⟩, .slice aox tree.length cx, .int .u16 acts, .string ⟨keep.toArray⟩]) rfl rfl Try.sizeOf84 rfl (by simp [Value.oneCell']) rfl ?_; clear hE1; intro w2 hE; simp only [List.set_cons_zero, List.set_cons_succ] at hE)
        | ((with_reducible (show Go.wpList _ _ _ (Go.Oper.mk _ (.load _ _) _ _ _ _ :: _) _ _)); refine wpl_load1 hE 0 rfl rfl rfl rfl (by simp [go_sem]) rfl ?_))
      clear d1 d2 d3 d4
      have hkx : Knows (pt b5 (.cells #[.int .u8 dn, .string ⟨name.toArray⟩, .string ⟨path.toArray⟩, .slice aox tree.length cx, .int .u16 acts, .string ⟨keep.toArray⟩] 84) :: l) (reads (.slice aox tree.length cx) tree.length (treeCells tree)) := Hkv.out.cons
      go_loopw [3, 6] (fun s i wr => GrI tree (pt b5 (.cells #[.int .u8 dn, .string ⟨name.toArray⟩, .string ⟨path.toArray⟩, .slice aox tree.length cx, .int .u16 acts, .string ⟨keep.toArray⟩] 84) :: l) s i wr) (fun _ i _ => tree.length - (intOf i).toNat)
      case atStart => exact ⟨0, a, Nat.zero_le _, rfl, rfl, by simp, hE⟩
      case round =>
        clear hE
        obtain ⟨j, a2, hjl, rfl, rfl, hin, hE⟩ := hrel
        have Hin := SL.hid hin
        clear hin
        by_cases hlt2 : j < tree.length
        · obtain ⟨ba, oa, rfl, _⟩ := reads_form (hkx _ hE) (by omega) (by rw [treeCells_len]; omega)
          have hcx := te_cells (hkx _ hE) hlt2
          have Hs2 := SL.hid (show (tree[j].path.length ≤ 400 ∧ tree[j].data.length ≤ 70000) → ∀ y ∈ tree.take (j + 1), y.path.length ≤ 400 ∧ y.data.length ≤ 70000 from fun h y hy => by
            rw [List.take_succ_eq_append_getElem hlt2, List.mem_append, List.mem_singleton] at hy
            rcases hy with hy | rfl
            · exact Hin.out y hy
            · exact h)
          clear Hin
          generalize tree[j] = y at *
          obtain ⟨yp, yd, ydat⟩ := y
          have k0 := hcx 0 _ rfl
          have k2 := hcx 2 _ rfl
          simp only [Addr.add_lit, Nat.add_zero] at k0 k2
          clear hcx
          by_cases a1 : (400 : Int) < (yp.length : Int)
          · go_wp2_with (first
              | go_skip
              | ((with_reducible (show Go.wpList _ _ _ (Go.Oper.mk _ (.load _ _) _ _ _ _ :: _) _ _)); first | (refine wpl_load1 hE 0 rfl rfl rfl rfl (by simp [go_sem]) rfl ?_) | (refine wpl_load1 hE 1 rfl rfl rfl rfl (by simp [go_sem]) rfl ?_) | (refine wpl_load1 hE 2 rfl rfl rfl rfl (by simp [go_sem]) rfl ?_) | (refine wpl_load1 hE 3 rfl rfl rfl rfl (by simp [go_sem]) rfl ?_) | (refine wpl_load1 hE 4 rfl rfl rfl rfl (by simp [go_sem]) rfl ?_) | (refine wpl_load1 hE 5 rfl rfl rfl rfl (by simp [go_sem]) rfl ?_)))
            go_ret
            exact ⟨_, rfl, ⟨true, rfl, by simp⟩, hE.tail⟩
          have e1 : decide ((400 : Int) < (yp.length : Int)) = false := decide_eq_false a1
          by_cases a3 : (70000 : Int) < (ydat.length : Int)
          · clear a1
            go_wp2_with (first
              | go_skip
              | ((with_reducible (show Go.wpList _ _ _ (Go.Oper.mk _ (.load _ _) _ _ _ _ :: _) _ _)); first | (refine wpl_load1 hE 0 rfl rfl rfl rfl (by simp [go_sem]) rfl ?_) | (refine wpl_load1 hE 1 rfl rfl rfl rfl (by simp [go_sem]) rfl ?_) | (refine wpl_load1 hE 2 rfl rfl rfl rfl (by simp [go_sem]) rfl ?_) | (refine wpl_load1 hE 3 rfl rfl rfl rfl (by simp [go_sem]) rfl ?_) | (refine wpl_load1 hE 4 rfl rfl rfl rfl (by simp [go_sem]) rfl ?_) | (refine wpl_load1 hE 5 rfl rfl rfl rfl (by simp [go_sem]) rfl ?_)))
            go_ret
            exact ⟨_, rfl, ⟨true, rfl, by simp⟩, hE.tail⟩
          have e2 : decide ((70000 : Int) < (ydat.length : Int)) = false := decide_eq_false a3
          have Hy := SL.hid (show yp.length ≤ 400 ∧ ydat.length ≤ 70000 by omega)
          clear a1 a3
          go_wp2_with (first
            | go_skip
            | ((with_reducible (show Go.wpList _ _ _ (Go.Oper.mk _ (.load _ _) _ _ _ _ :: _) _ _)); first | (refine wpl_load1 hE 0 rfl rfl rfl rfl (by simp [go_sem]) rfl ?_) | (refine wpl_load1 hE 1 rfl rfl rfl rfl (by simp [go_sem]) rfl ?_) | (refine wpl_load1 hE 2 rfl rfl rfl rfl (by simp [go_sem]) rfl ?_) | (refine wpl_load1 hE 3 rfl rfl rfl rfl (by simp [go_sem]) rfl ?_) | (refine wpl_load1 hE 4 rfl rfl rfl rfl (by simp [go_sem]) rfl ?_) | (refine wpl_load1 hE 5 rfl rfl rfl rfl (by simp [go_sem]) rfl ?_)))
          go_roundw
          case rel => exact ⟨j + 1, _, hlt2, by first | rfl | simp, by first | rfl | simp, Hs2.out Hy.out, hE⟩
          case measure => simp [intOf]; omega
        · have Hx := SL.hid (show bndE ⟨d, name, path, tree, acts, keep⟩ from ⟨Hb.out, htl, by have := Hin.out; rwa [show j = tree.length by omega, List.take_length] at this⟩)
          clear Hin
          go_wp2_with (first
            | go_skip
            | ((with_reducible (show Go.wpList _ _ _ (Go.Oper.mk _ (.load _ _) _ _ _ _ :: _) _ _)); first | (refine wpl_load1 hE 0 rfl rfl rfl rfl (by simp [go_sem]) rfl ?_) | (refine wpl_load1 hE 1 rfl rfl rfl rfl (by simp [go_sem]) rfl ?_) | (refine wpl_load1 hE 2 rfl rfl rfl rfl (by simp [go_sem]) rfl ?_) | (refine wpl_load1 hE 3 rfl rfl rfl rfl (by simp [go_sem]) rfl ?_) | (refine wpl_load1 hE 4 rfl rfl rfl rfl (by simp [go_sem]) rfl ?_) | (refine wpl_load1 hE 5 rfl rfl rfl rfl (by simp [go_sem]) rfl ?_)))
          go_roundw
          case rel => exact ⟨k + 1, a2, hlt, by first | rfl | simp, by first | rfl | simp, Hs.out Hx.out, hE.tail⟩
          case measure => simp [intOf]; omega
    · have Hall2 := SL.hid (show ∀ v ∈ vs, bndE v.x by have := Hall.out; rwa [show k = vs.length by omega, List.take_length] at this)
      clear Hall
      go_wp2
      go_ret
      exact ⟨_, rfl, ⟨_, rfl, fun _ => ⟨hn, Hall2.out⟩⟩, hE⟩
end Go.Proofs.Ytohdljcpaogokaa
namespace Go.SL
section
variable {P : Program} {w : World} {l : List HProp} {ops : Array Oper} {o : Oper} {a : Act} {Q : Exit → Act → World → Prop}
theorem step_alloc {K : Act → World → Prop} {E : Prop} (hE : Ent l w) {t : TypeId} (ho : o.op = .alloc t) (hw : Region.wanted o (yielded ops a.tmps) = true) {v : Value} (hz : ∀ w, (zeroValue t).run P w = .ok v w)
    (h : ∀ b w', Ent (pt b (.cells v.cells t) :: l) w' → K (a.put o.dst (.pointer (some ⟨b, 0, none⟩))) w') : if Region.wanted o (yielded ops a.tmps) = true then Oper.wp P o a w K Q else E := by
  rw [if_pos hw]
  have hr : (execOp a.eval o).run P w = .ok (.value (.pointer (some ⟨w.heap.size, 0, none⟩))) (w.alloc (.cells v.cells t)) := by simp [execOp, ho, hz, Instr.alloc, newVar, newRow]
  simp only [Oper.wp, hr, Oper.upon]
  exact h _ _ (hE.alloc _)
end
end Go.SL
namespace Go.Proofs.Ytohdljcpaogokaa
open Go.RowKit Go.SL

def SmO (n : Nat) (l : List HProp) (i : Value) (wr : World) : Prop := ∃ k : Nat, k ≤ n ∧ i = .int .i64 k ∧ Ent l wr

set_option maxRecDepth 100000 in
set_option maxHeartbeats 4000000 in
attribute [-go_sem] Instr.loadAt Go.run_equalIn_agg in
theorem Same27_any {vs us : List SV} {ao bo : Option Addr} {c d : Nat} (he : xsOf vs = xsOf us) (hn : vs.length ≤ 100000) (ht : ∀ v ∈ vs, v.x.tree.length ≤ 100000) {l : List HProp} {w : World} (hE : Ent l w)
    (ka : Knows l (reads (.slice ao vs.length c) vs.length (svCells vs))) (kb : Knows l (reads (.slice bo us.length d) us.length (svCells us))) (kta : ∀ v ∈ vs, v.known l) (ktb : ∀ v ∈ us, v.known l) :
    Calls Try.prog 16 #[.slice ao vs.length c, .slice bo us.length d] w (Ret fun v w' => v = .bool true ∧ Ent l w') := by
  have hl : us.length = vs.length := by
    have := congrArg List.length he
    simpa [xsOf] using this.symm
  rw [hl] at kb ⊢
  have He := SL.hid he
  have Hl := SL.hid hl
  have Hta := SL.hid kta
  have Htb := SL.hid ktb
  have Ht := SL.hid ht
  clear he hl kta ktb ht
  generalize hm : vs.length = m at *
  have Hm := SL.hid hm
  clear hm
  go_enter Try.func16, Try.ntmps16
  go_wp2
  go_loopw [5] (fun i wr => SmO m l i wr) (fun i _ => m - (intOf i).toNat)
  case atStart => exact ⟨0, Nat.zero_le _, rfl, hE⟩
  case round =>
    clear hE
    obtain ⟨k, hkl, rfl, hE⟩ := hrel
    by_cases hlt : k < m
    · have hv : k < vs.length := by have := Hm.out; omega
      have hu : k < us.length := by have := Hm.out; have := Hl.out; omega
      obtain ⟨b1, o1, rfl, _⟩ := reads_form (ka _ hE) (by omega) (by rw [svCells_len, Hm.out]; omega)
      obtain ⟨b2, o2, rfl, _⟩ := reads_form (kb _ hE) (by omega) (by rw [svCells_len, Hl.out]; omega)
      have hx : vs[k].x = us[k].x := by
        have h1 : (xsOf vs)[k]? = some vs[k].x := by simp [xsOf, List.getElem?_eq_getElem hv]
        have h2 : (xsOf us)[k]? = some us[k].x := by simp [xsOf, List.getElem?_eq_getElem hu]
        rw [He.out, h2] at h1
        exact (Option.some.inj h1).symm
      have La := SL.hid (show ∀ W, Ent l W → (Instr.loadAt 87 (.pointer (some ⟨b1, o1 + k * 6, none⟩))).run Try.prog W = .ok (.agg (vs[k].cells).toArray) W from fun W hW => atC Try.isAgg87 Try.sizeOf87 _ rfl (sv_cells (ka W hW) hv))
      have Lb := SL.hid (show ∀ W, Ent l W → (Instr.loadAt 84 (.pointer (some ⟨b2, o2 + k * 6, none⟩))).run Try.prog W = .ok (.agg (us[k].cells).toArray) W from fun W hW => atC Try.isAgg84 Try.sizeOf84 _ rfl (sv_cells (kb W hW) hu))
      have Hka := SL.hid (Hta.out _ (List.getElem_mem hv))
      have Hkb := SL.hid (Htb.out _ (List.getElem_mem hu))
      have htl := Ht.out _ (List.getElem_mem hv)
      generalize vs[k] = v at *
      generalize us[k] = u at *
      clear hv hu
      obtain ⟨x, aox, cx⟩ := v
      obtain ⟨y, aoy, cy⟩ := u
      simp only at hx htl
      subst hx
      obtain ⟨dd, name, path, tree, acts, keep⟩ := x
      simp only [SV.cells, SV.known, xcells] at La Lb Hka Hkb htl
      generalize dd.toNat = dn at *
      go_wp2
      have hW := hE.drew
      clear hE
      refine wp_region_held_drew (S := (fun w' => (Instr.loadAt 87 (.pointer (some ⟨b1, o1 + k * 6, none⟩))).run Try.prog w' = .ok (.agg #[.int .u8 dn, .string ⟨name.toArray⟩, .string ⟨path.toArray⟩, .slice aox tree.length cx, .int .u16 acts, .string ⟨keep.toArray⟩]) w' ∧ (Instr.loadAt 84 (.pointer (some ⟨b2, o2 + k * 6, none⟩))).run Try.prog w' = .ok (.agg #[.int .u8 dn, .string ⟨name.toArray⟩, .string ⟨path.toArray⟩, .slice aoy tree.length cy, .int .u16 acts, .string ⟨keep.toArray⟩]) w')) (by kernel_rfl) ⟨La.out _ hW, Lb.out _ hW⟩ (fun hS => ?_)
      refine wpAnyH_take (i := 0) (oi := { dst := some 20, op := Go.Op.move (Go.Operand.tmp 0), type := 28, pos := "law.go:26", after := #[], guard := none }) (v := ?_) rfl (by kernel_rfl) (by kernel_rfl) (by kernel_rfl) (fun _ _ _ h => h) (Or.inl ⟨by rfl, ?_⟩) hS ?_
      rotate_left
      · (intro w hSw; (try dsimp only at hSw); go_simp; (try with_reducible rfl))
      try simp only [Act.put, List.setIfInBounds_toArray, List.set_cons_zero, List.set_cons_succ]
      refine wpAnyH_take (i := 1) (oi := { dst := some 21, op := Go.Op.move (Go.Operand.tmp 5), type := 3, pos := "law.go:26", after := #[], guard := none }) (v := ?_) rfl (by kernel_rfl) (by kernel_rfl) (by kernel_rfl) (fun _ _ _ h => h) (Or.inl ⟨by rfl, ?_⟩) hS ?_
      rotate_left
      · (intro w hSw; (try dsimp only at hSw); go_simp; (try with_reducible rfl))
      try simp only [Act.put, List.setIfInBounds_toArray, List.set_cons_zero, List.set_cons_succ]
      refine wpAnyH_take (i := 2) (oi := { dst := some 22, op := Go.Op.indexAddr 28 (Go.Operand.tmp 20) (Go.Operand.tmp 21), type := 0, pos := "law.go:26", after := #[{ on := 0, ground := Go.Ground.data }, { on := 1, ground := Go.Ground.data }], guard := none }) (v := ?_) rfl (by kernel_rfl) (by kernel_rfl) (by kernel_rfl) (fun _ _ _ h => h) (Or.inl ⟨by rfl, ?_⟩) hS ?_
      rotate_left
      · (intro w hSw; (try dsimp only at hSw); go_simp; (try with_reducible rfl))
      try simp only [Act.put, List.setIfInBounds_toArray, List.set_cons_zero, List.set_cons_succ]
      refine wpAnyH_take (i := 3) (oi := { dst := some 23, op := Go.Op.load 87 (Go.Operand.tmp 22), type := 87, pos := "law.go:26", after := #[{ on := 2, ground := Go.Ground.data }], guard := none }) (v := ?_) rfl (by kernel_rfl) (by kernel_rfl) (by kernel_rfl) (fun _ _ _ h => h) (Or.inl ⟨by rfl, ?_⟩) hS ?_
      rotate_left
      · (intro w hSw; (try dsimp only at hSw); go_simp; (try with_reducible rfl))
      try simp only [Act.put, List.setIfInBounds_toArray, List.set_cons_zero, List.set_cons_succ]
      refine wpAnyH_take (i := 4) (oi := { dst := some 24, op := Go.Op.move (Go.Operand.tmp 1), type := 22, pos := "law.go:26", after := #[{ on := 10, ground := Go.Ground.gcOnly Go.Departure.lateStores }], guard := none }) (v := ?_) rfl (by kernel_rfl) (by kernel_rfl) (by kernel_rfl) (fun _ _ _ h => h) (Or.inl ⟨by rfl, ?_⟩) hS ?_
      rotate_left
      · (intro w hSw; (try dsimp only at hSw); go_simp; (try with_reducible rfl))
      try simp only [Act.put, List.setIfInBounds_toArray, List.set_cons_zero, List.set_cons_succ]
      refine wpAnyH_take (i := 5) (oi := { dst := some 25, op := Go.Op.move (Go.Operand.tmp 5), type := 3, pos := "law.go:26", after := #[{ on := 10, ground := Go.Ground.gcOnly Go.Departure.lateStores }], guard := none }) (v := ?_) rfl (by kernel_rfl) (by kernel_rfl) (by kernel_rfl) (fun _ _ _ h => h) (Or.inl ⟨by rfl, ?_⟩) hS ?_
      rotate_left
      · (intro w hSw; (try dsimp only at hSw); go_simp; (try with_reducible rfl))
      try simp only [Act.put, List.setIfInBounds_toArray, List.set_cons_zero, List.set_cons_succ]
      refine wpAnyH_take (i := 6) (oi := { dst := some 26, op := Go.Op.indexAddr 22 (Go.Operand.tmp 24) (Go.Operand.tmp 25), type := 0, pos := "law.go:26", after := #[{ on := 4, ground := Go.Ground.data }, { on := 5, ground := Go.Ground.data }, { on := 10, ground := Go.Ground.gcOnly Go.Departure.lateStores }], guard := none }) (v := ?_) rfl (by kernel_rfl) (by kernel_rfl) (by kernel_rfl) (fun _ _ _ h => h) (Or.inl ⟨by rfl, ?_⟩) hS ?_
      rotate_left
      · (intro w hSw; (try dsimp only at hSw); go_simp; (try with_reducible rfl))
      try simp only [Act.put, List.setIfInBounds_toArray, List.set_cons_zero, List.set_cons_succ]
      refine wpAnyH_take (i := 7) (oi := { dst := some 27, op := Go.Op.load 84 (Go.Operand.tmp 26), type := 84, pos := "law.go:26", after := #[{ on := 6, ground := Go.Ground.data }, { on := 10, ground := Go.Ground.gcOnly Go.Departure.lateStores }], guard := none }) (v := ?_) rfl (by kernel_rfl) (by kernel_rfl) (by kernel_rfl) (fun _ _ _ h => h) (Or.inl ⟨by rfl, ?_⟩) hS ?_
      rotate_left
      · (intro w hSw; (try dsimp only at hSw); go_simp; (try with_reducible rfl))
      try simp only [Act.put, List.setIfInBounds_toArray, List.set_cons_zero, List.set_cons_succ]
      refine wpAnyH_ready (rs := [8, 9]) (by kernel_rfl) (by simp) ?_
      refine (AllReadyH.cons (o := { dst := some 6, op := Go.Op.alloc 87, type := 0, pos := "law.go:26", after := #[], guard := none }) rfl (fun K hK => ?_) (AllReadyH.cons (o := { dst := some 7, op := Go.Op.alloc 84, type := 0, pos := "law.go:26", after := #[], guard := none }) rfl (fun K hK => ?_) AllReadyH.nil))
      focus
        (refine step_alloc hW (by rfl) (by rfl) (by simp [go_sem]; rfl) ?_; clear hW; intro b6 w1 hW; simp only [Act.eval, Act.put, List.setIfInBounds_toArray, List.set_cons_zero, List.set_cons_succ, getD_lit, List.getD_cons_succ, List.getD_cons_zero, Value.cells] at hW)
        refine hK.out _ _ ⟨La.out _ (by first | exact hW.tail | exact hW.tail.tail), Lb.out _ (by first | exact hW.tail | exact hW.tail.tail)⟩ (fun hS => ?_)
        clear hK K
        try simp only [Act.put, List.setIfInBounds_toArray, List.set_cons_zero, List.set_cons_succ]
        refine wpAnyH_ready (rs := [9]) (by kernel_rfl) (by simp) ?_
        refine (AllReadyH.cons (o := { dst := some 7, op := Go.Op.alloc 84, type := 0, pos := "law.go:26", after := #[], guard := none }) rfl (fun K hK => ?_) AllReadyH.nil)
        (refine step_alloc hW (by rfl) (by rfl) (by simp [go_sem]; rfl) ?_; clear hW; intro b7 w1 hW; simp only [Act.eval, Act.put, List.setIfInBounds_toArray, List.set_cons_zero, List.set_cons_succ, getD_lit, List.getD_cons_succ, List.getD_cons_zero, Value.cells] at hW)
        refine hK.out _ _ ⟨La.out _ (by first | exact hW.tail | exact hW.tail.tail), Lb.out _ (by first | exact hW.tail | exact hW.tail.tail)⟩ (fun hS => ?_)
        clear hK K
        try simp only [Act.put, List.setIfInBounds_toArray, List.set_cons_zero, List.set_cons_succ]
        refine wpAnyH_ready (rs := [10]) (by kernel_rfl) (by simp) ?_
        refine (AllReadyH.cons (o := { dst := none, op := Go.Op.store 87 (Go.Operand.tmp 6) (Go.Operand.tmp 23), type := 0, pos := "law.go:26", after := #[{ on := 8, ground := Go.Ground.data }, { on := 3, ground := Go.Ground.data }, { on := 0, ground := Go.Ground.phase }, { on := 1, ground := Go.Ground.phase }, { on := 2, ground := Go.Ground.phase }, { on := 3, ground := Go.Ground.phase }, { on := 4, ground := Go.Ground.textOnly Go.Departure.lateStores }, { on := 5, ground := Go.Ground.textOnly Go.Departure.lateStores }, { on := 6, ground := Go.Ground.textOnly Go.Departure.lateStores }, { on := 7, ground := Go.Ground.textOnly Go.Departure.lateStores }, { on := 8, ground := Go.Ground.phase }, { on := 9, ground := Go.Ground.phase }], guard := none }) rfl (fun K hK => ?_) AllReadyH.nil)
        (first | (refine step_storeW hW 0 rfl (by rfl) (by rfl) (by rfl) (xs := [.int .u8 dn, .string ⟨name.toArray⟩, .string ⟨path.toArray⟩, .slice aox tree.length cx, .int .u16 acts, .string ⟨keep.toArray⟩]) (by rfl) Try.sizeOf87 rfl (by simp [Value.oneCell']) rfl ?_; clear hW; intro w1 hW) | (refine step_storeW hW 1 rfl (by rfl) (by rfl) (by rfl) (xs := [.int .u8 dn, .string ⟨name.toArray⟩, .string ⟨path.toArray⟩, .slice aox tree.length cx, .int .u16 acts, .string ⟨keep.toArray⟩]) (by rfl) Try.sizeOf87 rfl (by simp [Value.oneCell']) rfl ?_; clear hW; intro w1 hW); simp only [List.set_cons_zero, List.set_cons_succ] at hW)
        refine hK.out _ _ ⟨La.out _ hW.tail.tail, Lb.out _ hW.tail.tail⟩ (fun hS => ?_)
        clear hK K
        try simp only [Act.put, List.setIfInBounds_toArray, List.set_cons_zero, List.set_cons_succ]
        refine wpAnyH_ready (rs := [11]) (by kernel_rfl) (by simp) ?_
        refine (AllReadyH.cons (o := { dst := none, op := Go.Op.store 84 (Go.Operand.tmp 7) (Go.Operand.tmp 27), type := 0, pos := "law.go:26", after := #[{ on := 9, ground := Go.Ground.data }, { on := 7, ground := Go.Ground.data }, { on := 10, ground := Go.Ground.chain }, { on := 0, ground := Go.Ground.phase }, { on := 1, ground := Go.Ground.phase }, { on := 2, ground := Go.Ground.phase }, { on := 3, ground := Go.Ground.phase }, { on := 4, ground := Go.Ground.phase }, { on := 5, ground := Go.Ground.phase }, { on := 6, ground := Go.Ground.phase }, { on := 7, ground := Go.Ground.phase }, { on := 8, ground := Go.Ground.phase }, { on := 9, ground := Go.Ground.phase }, { on := 10, ground := Go.Ground.phase }], guard := none }) rfl (fun K hK => ?_) AllReadyH.nil)
        (first | (refine step_storeW hW 0 rfl (by rfl) (by rfl) (by rfl) (xs := [.int .u8 dn, .string ⟨name.toArray⟩, .string ⟨path.toArray⟩, .slice aoy tree.length cy, .int .u16 acts, .string ⟨keep.toArray⟩]) (by rfl) Try.sizeOf84 rfl (by simp [Value.oneCell']) rfl ?_; clear hW; intro w1 hW) | (refine step_storeW hW 1 rfl (by rfl) (by rfl) (by rfl) (xs := [.int .u8 dn, .string ⟨name.toArray⟩, .string ⟨path.toArray⟩, .slice aoy tree.length cy, .int .u16 acts, .string ⟨keep.toArray⟩]) (by rfl) Try.sizeOf84 rfl (by simp [Value.oneCell']) rfl ?_; clear hW; intro w1 hW); simp only [List.set_cons_zero, List.set_cons_succ] at hW)
        refine hK.out _ _ ⟨La.out _ hW.tail.tail, Lb.out _ hW.tail.tail⟩ (fun hS => ?_)
        clear hK K
        try simp only [Act.put, List.setIfInBounds_toArray, List.set_cons_zero, List.set_cons_succ]
        refine wpAnyH_done (by kernel_rfl) ?_ _
      rotate_right
      focus
        (refine step_alloc hW (by rfl) (by rfl) (by simp [go_sem]; rfl) ?_; clear hW; intro b7 w1 hW; simp only [Act.eval, Act.put, List.setIfInBounds_toArray, List.set_cons_zero, List.set_cons_succ, getD_lit, List.getD_cons_succ, List.getD_cons_zero, Value.cells] at hW)
        refine hK.out _ _ ⟨La.out _ (by first | exact hW.tail | exact hW.tail.tail), Lb.out _ (by first | exact hW.tail | exact hW.tail.tail)⟩ (fun hS => ?_)
        clear hK K
        try simp only [Act.put, List.setIfInBounds_toArray, List.set_cons_zero, List.set_cons_succ]
        refine wpAnyH_ready (rs := [8]) (by kernel_rfl) (by simp) ?_
        refine (AllReadyH.cons (o := { dst := some 6, op := Go.Op.alloc 87, type := 0, pos := "law.go:26", after := #[], guard := none }) rfl (fun K hK => ?_) AllReadyH.nil)
        (refine step_alloc hW (by rfl) (by rfl) (by simp [go_sem]; rfl) ?_; clear hW; intro b6 w1 hW; simp only [Act.eval, Act.put, List.setIfInBounds_toArray, List.set_cons_zero, List.set_cons_succ, getD_lit, List.getD_cons_succ, List.getD_cons_zero, Value.cells] at hW)
        refine hK.out _ _ ⟨La.out _ (by first | exact hW.tail | exact hW.tail.tail), Lb.out _ (by first | exact hW.tail | exact hW.tail.tail)⟩ (fun hS => ?_)
        clear hK K
        try simp only [Act.put, List.setIfInBounds_toArray, List.set_cons_zero, List.set_cons_succ]
        refine wpAnyH_ready (rs := [10]) (by kernel_rfl) (by simp) ?_
        refine (AllReadyH.cons (o := { dst := none, op := Go.Op.store 87 (Go.Operand.tmp 6) (Go.Operand.tmp 23), type := 0, pos := "law.go:26", after := #[{ on := 8, ground := Go.Ground.data }, { on := 3, ground := Go.Ground.data }, { on := 0, ground := Go.Ground.phase }, { on := 1, ground := Go.Ground.phase }, { on := 2, ground := Go.Ground.phase }, { on := 3, ground := Go.Ground.phase }, { on := 4, ground := Go.Ground.textOnly Go.Departure.lateStores }, { on := 5, ground := Go.Ground.textOnly Go.Departure.lateStores }, { on := 6, ground := Go.Ground.textOnly Go.Departure.lateStores }, { on := 7, ground := Go.Ground.textOnly Go.Departure.lateStores }, { on := 8, ground := Go.Ground.phase }, { on := 9, ground := Go.Ground.phase }], guard := none }) rfl (fun K hK => ?_) AllReadyH.nil)
        (first | (refine step_storeW hW 0 rfl (by rfl) (by rfl) (by rfl) (xs := [.int .u8 dn, .string ⟨name.toArray⟩, .string ⟨path.toArray⟩, .slice aox tree.length cx, .int .u16 acts, .string ⟨keep.toArray⟩]) (by rfl) Try.sizeOf87 rfl (by simp [Value.oneCell']) rfl ?_; clear hW; intro w1 hW) | (refine step_storeW hW 1 rfl (by rfl) (by rfl) (by rfl) (xs := [.int .u8 dn, .string ⟨name.toArray⟩, .string ⟨path.toArray⟩, .slice aox tree.length cx, .int .u16 acts, .string ⟨keep.toArray⟩]) (by rfl) Try.sizeOf87 rfl (by simp [Value.oneCell']) rfl ?_; clear hW; intro w1 hW); simp only [List.set_cons_zero, List.set_cons_succ] at hW)
        refine hK.out _ _ ⟨La.out _ hW.tail.tail, Lb.out _ hW.tail.tail⟩ (fun hS => ?_)
        clear hK K
        try simp only [Act.put, List.setIfInBounds_toArray, List.set_cons_zero, List.set_cons_succ]
        refine wpAnyH_ready (rs := [11]) (by kernel_rfl) (by simp) ?_
        refine (AllReadyH.cons (o := { dst := none, op := Go.Op.store 84 (Go.Operand.tmp 7) (Go.Operand.tmp 27), type := 0, pos := "law.go:26", after := #[{ on := 9, ground := Go.Ground.data }, { on := 7, ground := Go.Ground.data }, { on := 10, ground := Go.Ground.chain }, { on := 0, ground := Go.Ground.phase }, { on := 1, ground := Go.Ground.phase }, { on := 2, ground := Go.Ground.phase }, { on := 3, ground := Go.Ground.phase }, { on := 4, ground := Go.Ground.phase }, { on := 5, ground := Go.Ground.phase }, { on := 6, ground := Go.Ground.phase }, { on := 7, ground := Go.Ground.phase }, { on := 8, ground := Go.Ground.phase }, { on := 9, ground := Go.Ground.phase }, { on := 10, ground := Go.Ground.phase }], guard := none }) rfl (fun K hK => ?_) AllReadyH.nil)
        (first | (refine step_storeW hW 0 rfl (by rfl) (by rfl) (by rfl) (xs := [.int .u8 dn, .string ⟨name.toArray⟩, .string ⟨path.toArray⟩, .slice aoy tree.length cy, .int .u16 acts, .string ⟨keep.toArray⟩]) (by rfl) Try.sizeOf84 rfl (by simp [Value.oneCell']) rfl ?_; clear hW; intro w1 hW) | (refine step_storeW hW 1 rfl (by rfl) (by rfl) (by rfl) (xs := [.int .u8 dn, .string ⟨name.toArray⟩, .string ⟨path.toArray⟩, .slice aoy tree.length cy, .int .u16 acts, .string ⟨keep.toArray⟩]) (by rfl) Try.sizeOf84 rfl (by simp [Value.oneCell']) rfl ?_; clear hW; intro w1 hW); simp only [List.set_cons_zero, List.set_cons_succ] at hW)
        refine hK.out _ _ ⟨La.out _ hW.tail.tail, Lb.out _ hW.tail.tail⟩ (fun hS => ?_)
        clear hK K
        try simp only [Act.put, List.setIfInBounds_toArray, List.set_cons_zero, List.set_cons_succ]
        refine wpAnyH_done (by kernel_rfl) ?_ _
      all_goals
        have hE : Ent (pt b6 (.cells #[.int .u8 dn, .string ⟨name.toArray⟩, .string ⟨path.toArray⟩, .slice aox tree.length cx, .int .u16 acts, .string ⟨keep.toArray⟩] 87) :: pt b7 (.cells #[.int .u8 dn, .string ⟨name.toArray⟩, .string ⟨path.toArray⟩, .slice aoy tree.length cy, .int .u16 acts, .string ⟨keep.toArray⟩] 84) :: l) w1 := by
          first
            | exact hW
            | exact hW.perm (List.Perm.swap _ _ _)
        clear hW
        have kA := (Hka.out.cons (A := pt b7 (.cells #[.int .u8 dn, .string ⟨name.toArray⟩, .string ⟨path.toArray⟩, .slice aoy tree.length cy, .int .u16 acts, .string ⟨keep.toArray⟩] 84))).cons (A := pt b6 (.cells #[.int .u8 dn, .string ⟨name.toArray⟩, .string ⟨path.toArray⟩, .slice aox tree.length cx, .int .u16 acts, .string ⟨keep.toArray⟩] 87))
        have kB := (Hkb.out.cons (A := pt b7 (.cells #[.int .u8 dn, .string ⟨name.toArray⟩, .string ⟨path.toArray⟩, .slice aoy tree.length cy, .int .u16 acts, .string ⟨keep.toArray⟩] 84))).cons (A := pt b6 (.cells #[.int .u8 dn, .string ⟨name.toArray⟩, .string ⟨path.toArray⟩, .slice aox tree.length cx, .int .u16 acts, .string ⟨keep.toArray⟩] 87))
        go_wp2_with (first
          | go_skip
          | ((with_reducible (show Go.wpList _ _ _ (Go.Oper.mk _ (.load _ _) _ _ _ _ :: _) _ _)); first | (refine wpl_load1 hE 0 rfl rfl rfl rfl (by simp [go_sem]) rfl ?_) | (refine wpl_load1 hE 1 rfl rfl rfl rfl (by simp [go_sem]) rfl ?_) | (refine wpl_load1 hE 2 rfl rfl rfl rfl (by simp [go_sem]) rfl ?_) | (refine wpl_load1 hE 3 rfl rfl rfl rfl (by simp [go_sem]) rfl ?_) | (refine wpl_load1 hE 4 rfl rfl rfl rfl (by simp [go_sem]) rfl ?_) | (refine wpl_load1 hE 5 rfl rfl rfl rfl (by simp [go_sem]) rfl ?_)))
        go_loopw [8] (fun i wr => SmO tree.length (pt b6 (.cells #[.int .u8 dn, .string ⟨name.toArray⟩, .string ⟨path.toArray⟩, .slice aox tree.length cx, .int .u16 acts, .string ⟨keep.toArray⟩] 87) :: pt b7 (.cells #[.int .u8 dn, .string ⟨name.toArray⟩, .string ⟨path.toArray⟩, .slice aoy tree.length cy, .int .u16 acts, .string ⟨keep.toArray⟩] 84) :: l) i wr) (fun i _ => tree.length - (intOf i).toNat)
        case atStart => exact ⟨0, Nat.zero_le _, rfl, hE⟩
        case round =>
          clear hE
          obtain ⟨j, hjl, rfl, hE⟩ := hrel
          by_cases hlt2 : j < tree.length
          · obtain ⟨ba, oa, rfl, _⟩ := reads_form (kA _ hE) (by omega) (by rw [treeCells_len]; omega)
            obtain ⟨bb, ob, rfl, _⟩ := reads_form (kB _ hE) (by omega) (by rw [treeCells_len]; omega)
            have la := SL.hid (show ∀ W, Ent (pt b6 (.cells #[.int .u8 dn, .string ⟨name.toArray⟩, .string ⟨path.toArray⟩, .slice (some ⟨ba, oa, none⟩) tree.length cx, .int .u16 acts, .string ⟨keep.toArray⟩] 87) :: pt b7 (.cells #[.int .u8 dn, .string ⟨name.toArray⟩, .string ⟨path.toArray⟩, .slice (some ⟨bb, ob, none⟩) tree.length cy, .int .u16 acts, .string ⟨keep.toArray⟩] 84) :: l) W → (Instr.loadAt 86 (.pointer (some ⟨ba, oa + j * 3, none⟩))).run Try.prog W = .ok (.agg (tcells tree[j]).toArray) W from fun W hW => atC Try.isAgg86 Try.sizeOf86 _ rfl (te_cells (kA W hW) hlt2))
            have lb := SL.hid (show ∀ W, Ent (pt b6 (.cells #[.int .u8 dn, .string ⟨name.toArray⟩, .string ⟨path.toArray⟩, .slice (some ⟨ba, oa, none⟩) tree.length cx, .int .u16 acts, .string ⟨keep.toArray⟩] 87) :: pt b7 (.cells #[.int .u8 dn, .string ⟨name.toArray⟩, .string ⟨path.toArray⟩, .slice (some ⟨bb, ob, none⟩) tree.length cy, .int .u16 acts, .string ⟨keep.toArray⟩] 84) :: l) W → (Instr.loadAt 86 (.pointer (some ⟨bb, ob + j * 3, none⟩))).run Try.prog W = .ok (.agg (tcells tree[j]).toArray) W from fun W hW => atC Try.isAgg86 Try.sizeOf86 _ rfl (te_cells (kB W hW) hlt2))
            have he := fun w => eqTE w (a := tree[j]) (b := tree[j])
            rw [teq_iff.2 rfl] at he
            generalize tcells tree[j] = xa at *
            go_wp2_with (first
              | go_skip
              | ((with_reducible (show Go.wpList _ _ _ (Go.Oper.mk _ (.load _ _) _ _ _ _ :: _) _ _)); first | (refine wpl_load1 hE 0 rfl rfl rfl rfl (by simp [go_sem]) rfl ?_) | (refine wpl_load1 hE 1 rfl rfl rfl rfl (by simp [go_sem]) rfl ?_) | (refine wpl_load1 hE 2 rfl rfl rfl rfl (by simp [go_sem]) rfl ?_) | (refine wpl_load1 hE 3 rfl rfl rfl rfl (by simp [go_sem]) rfl ?_) | (refine wpl_load1 hE 4 rfl rfl rfl rfl (by simp [go_sem]) rfl ?_) | (refine wpl_load1 hE 5 rfl rfl rfl rfl (by simp [go_sem]) rfl ?_)))
            refine wp_region_held_drew (S := (fun w' => (Instr.loadAt 81 (.pointer (some ⟨b6, 3, none⟩))).run Try.prog w' = .ok (.slice (some ⟨ba, oa, none⟩) tree.length cx) w' ∧ (Instr.loadAt 81 (.pointer (some ⟨b7, 3, none⟩))).run Try.prog w' = .ok (.slice (some ⟨bb, ob, none⟩) tree.length cy) w' ∧ (Instr.loadAt 86 (.pointer (some ⟨ba, oa + j * 3, none⟩))).run Try.prog w' = .ok (.agg xa.toArray) w' ∧ (Instr.loadAt 86 (.pointer (some ⟨bb, ob + j * 3, none⟩))).run Try.prog w' = .ok (.agg xa.toArray) w')) (by kernel_rfl) ⟨atV hE.drew 0 rfl (by simp [go_sem]) rfl, atV hE.drew 1 rfl (by simp [go_sem]) rfl, la.out _ hE.drew, lb.out _ hE.drew⟩ (fun hS => ?_)
            refine wpAnyH_take (i := 0) (oi := { dst := some 77, op := Go.Op.fieldAddr 87 (Go.Operand.tmp 6) 3, type := 0, pos := "law.go:31", after := #[], guard := none }) (v := ?_) rfl (by kernel_rfl) (by kernel_rfl) (by kernel_rfl) (fun _ _ _ h => h) (Or.inl ⟨by rfl, ?_⟩) hS ?_
            rotate_left
            · (intro w hSw; (try dsimp only at hSw); go_simp; (try with_reducible rfl))
            try simp only [Act.put, List.setIfInBounds_toArray, List.set_cons_zero, List.set_cons_succ]
            refine wpAnyH_take (i := 1) (oi := { dst := some 78, op := Go.Op.load 81 (Go.Operand.tmp 77), type := 81, pos := "law.go:31", after := #[{ on := 0, ground := Go.Ground.data }], guard := none }) (v := ?_) rfl (by kernel_rfl) (by kernel_rfl) (by kernel_rfl) (fun _ _ _ h => h) (Or.inl ⟨by rfl, ?_⟩) hS ?_
            rotate_left
            · (intro w hSw; (try dsimp only at hSw); go_simp; (try with_reducible rfl))
            try simp only [Act.put, List.setIfInBounds_toArray, List.set_cons_zero, List.set_cons_succ]
            refine wpAnyH_take (i := 2) (oi := { dst := some 79, op := Go.Op.move (Go.Operand.tmp 8), type := 3, pos := "law.go:31", after := #[], guard := none }) (v := ?_) rfl (by kernel_rfl) (by kernel_rfl) (by kernel_rfl) (fun _ _ _ h => h) (Or.inl ⟨by rfl, ?_⟩) hS ?_
            rotate_left
            · (intro w hSw; (try dsimp only at hSw); go_simp; (try with_reducible rfl))
            try simp only [Act.put, List.setIfInBounds_toArray, List.set_cons_zero, List.set_cons_succ]
            refine wpAnyH_take (i := 3) (oi := { dst := some 80, op := Go.Op.indexAddr 81 (Go.Operand.tmp 78) (Go.Operand.tmp 79), type := 0, pos := "law.go:31", after := #[{ on := 1, ground := Go.Ground.data }, { on := 2, ground := Go.Ground.data }], guard := none }) (v := ?_) rfl (by kernel_rfl) (by kernel_rfl) (by kernel_rfl) (fun _ _ _ h => h) (Or.inl ⟨by rfl, ?_⟩) hS ?_
            rotate_left
            · (intro w hSw; (try dsimp only at hSw); go_simp; (try with_reducible rfl))
            try simp only [Act.put, List.setIfInBounds_toArray, List.set_cons_zero, List.set_cons_succ]
            refine wpAnyH_take (i := 4) (oi := { dst := some 81, op := Go.Op.load 86 (Go.Operand.tmp 80), type := 86, pos := "law.go:31", after := #[{ on := 3, ground := Go.Ground.data }], guard := none }) (v := ?_) rfl (by kernel_rfl) (by kernel_rfl) (by kernel_rfl) (fun _ _ _ h => h) (Or.inl ⟨by rfl, ?_⟩) hS ?_
            rotate_left
            · (intro w hSw; (try dsimp only at hSw); go_simp; (try with_reducible rfl))
            try simp only [Act.put, List.setIfInBounds_toArray, List.set_cons_zero, List.set_cons_succ]
            refine wpAnyH_take (i := 5) (oi := { dst := some 82, op := Go.Op.fieldAddr 84 (Go.Operand.tmp 7) 3, type := 0, pos := "law.go:31", after := #[], guard := none }) (v := ?_) rfl (by kernel_rfl) (by kernel_rfl) (by kernel_rfl) (fun _ _ _ h => h) (Or.inl ⟨by rfl, ?_⟩) hS ?_
            rotate_left
            · (intro w hSw; (try dsimp only at hSw); go_simp; (try with_reducible rfl))
            try simp only [Act.put, List.setIfInBounds_toArray, List.set_cons_zero, List.set_cons_succ]
            refine wpAnyH_take (i := 6) (oi := { dst := some 83, op := Go.Op.load 81 (Go.Operand.tmp 82), type := 81, pos := "law.go:31", after := #[{ on := 5, ground := Go.Ground.data }], guard := none }) (v := ?_) rfl (by kernel_rfl) (by kernel_rfl) (by kernel_rfl) (fun _ _ _ h => h) (Or.inl ⟨by rfl, ?_⟩) hS ?_
            rotate_left
            · (intro w hSw; (try dsimp only at hSw); go_simp; (try with_reducible rfl))
            try simp only [Act.put, List.setIfInBounds_toArray, List.set_cons_zero, List.set_cons_succ]
            refine wpAnyH_take (i := 7) (oi := { dst := some 84, op := Go.Op.move (Go.Operand.tmp 8), type := 3, pos := "law.go:31", after := #[], guard := none }) (v := ?_) rfl (by kernel_rfl) (by kernel_rfl) (by kernel_rfl) (fun _ _ _ h => h) (Or.inl ⟨by rfl, ?_⟩) hS ?_
            rotate_left
            · (intro w hSw; (try dsimp only at hSw); go_simp; (try with_reducible rfl))
            try simp only [Act.put, List.setIfInBounds_toArray, List.set_cons_zero, List.set_cons_succ]
            refine wpAnyH_take (i := 8) (oi := { dst := some 85, op := Go.Op.indexAddr 81 (Go.Operand.tmp 83) (Go.Operand.tmp 84), type := 0, pos := "law.go:31", after := #[{ on := 6, ground := Go.Ground.data }, { on := 7, ground := Go.Ground.data }], guard := none }) (v := ?_) rfl (by kernel_rfl) (by kernel_rfl) (by kernel_rfl) (fun _ _ _ h => h) (Or.inl ⟨by rfl, ?_⟩) hS ?_
            rotate_left
            · (intro w hSw; (try dsimp only at hSw); go_simp; (try with_reducible rfl))
            try simp only [Act.put, List.setIfInBounds_toArray, List.set_cons_zero, List.set_cons_succ]
            refine wpAnyH_take (i := 9) (oi := { dst := some 86, op := Go.Op.load 86 (Go.Operand.tmp 85), type := 86, pos := "law.go:31", after := #[{ on := 8, ground := Go.Ground.data }], guard := none }) (v := ?_) rfl (by kernel_rfl) (by kernel_rfl) (by kernel_rfl) (fun _ _ _ h => h) (Or.inl ⟨by rfl, ?_⟩) hS ?_
            rotate_left
            · (intro w hSw; (try dsimp only at hSw); go_simp; (try with_reducible rfl))
            try simp only [Act.put, List.setIfInBounds_toArray, List.set_cons_zero, List.set_cons_succ]
            refine wpAnyH_take (i := 10) (oi := { dst := some 87, op := Go.Op.binOp Go.BinOp.neq 86 (Go.Operand.tmp 81) (Go.Operand.tmp 86) 86, type := 4, pos := "law.go:31", after := #[{ on := 4, ground := Go.Ground.data }, { on := 9, ground := Go.Ground.data }], guard := none }) (v := ?_) rfl (by kernel_rfl) (by kernel_rfl) (by kernel_rfl) (fun _ _ _ h => h) (Or.inl ⟨by rfl, ?_⟩) hS ?_
            rotate_left
            · (intro w hSw; (try dsimp only at hSw); go_simp; (try with_reducible rfl))
            try simp only [Act.put, List.setIfInBounds_toArray, List.set_cons_zero, List.set_cons_succ]
            refine wpAnyH_done (by kernel_rfl) ?_ _
            go_wp2
            go_roundw
            case rel => exact ⟨j + 1, hlt2, by simp, hE.drew⟩
            case measure => simp [intOf]; omega
          · go_wp2_with (first
              | go_skip
              | ((with_reducible (show Go.wpList _ _ _ (Go.Oper.mk _ (.load _ _) _ _ _ _ :: _) _ _)); first | (refine wpl_load1 hE 0 rfl rfl rfl rfl (by simp [go_sem]) rfl ?_) | (refine wpl_load1 hE 1 rfl rfl rfl rfl (by simp [go_sem]) rfl ?_) | (refine wpl_load1 hE 2 rfl rfl rfl rfl (by simp [go_sem]) rfl ?_) | (refine wpl_load1 hE 3 rfl rfl rfl rfl (by simp [go_sem]) rfl ?_) | (refine wpl_load1 hE 4 rfl rfl rfl rfl (by simp [go_sem]) rfl ?_) | (refine wpl_load1 hE 5 rfl rfl rfl rfl (by simp [go_sem]) rfl ?_)))
            go_roundw
            case rel => exact ⟨k + 1, hlt, by simp, hE.tail.tail⟩
            case measure => simp [intOf]; omega
    · go_wp2
      go_ret
      exact ⟨_, rfl, rfl, hE⟩
end Go.Proofs.Ytohdljcpaogokaa
namespace Go.Proofs.Ytohdljcpaogokaa
open Go.RowKit Go.SL

def e27a : SE := ⟨1, [97, 98], [], [], 0, []⟩
def e27b : SE := ⟨5, [], [], [], 0, []⟩
def e27c : SE := ⟨9, [], [], [], 1, []⟩
theorem kn_put1 : putS [e27a, e27b] = [1, 2, 97, 98, 5] ∧ putSE [e27a, e27b] = 0 := ⟨rfl, rfl⟩
theorem kn_put2 : putS [e27c] = [] ∧ putSE [e27c] = 3 := ⟨rfl, rfl⟩
theorem kn_take1 : takeL [1, 2, 97, 98, 5] = [e27a, e27b] ∧ takeE [1, 2, 97, 98, 5] = 0 := by
  have h : takeS [1, 2, 97, 98, 5] = some [e27a, e27b] := takeS_put (l := [e27a, e27b]) (by simp [SE.good, e27a, e27b]) rfl
  unfold takeL takeE
  rw [h]
  exact ⟨rfl, rfl⟩
theorem kn_take2 : takeL [1, 2, 97, 98, 5, 11] = [] ∧ takeE [1, 2, 97, 98, 5, 11] = 3 := by
  have h1 : pent ⟨[1, 2, 97, 98, 5, 11], 0⟩ = (e27a, ⟨[5, 11], 0⟩) := rfl
  have h2 : pent ⟨[5, 11], 0⟩ = (e27b, ⟨[11], 0⟩) := rfl
  have h3 : pent ⟨[11], 0⟩ = (⟨11, [], [], [], 0, []⟩, ⟨[], 0⟩) := rfl
  have p0 : pall ⟨[], 0⟩ = ([], ⟨[], 0⟩) := by rw [pall, dif_neg (by decide)]
  have p1 : pall ⟨[11], 0⟩ = ([⟨11, [], [], [], 0, []⟩], ⟨[], 0⟩) := by rw [pall, dif_pos (by rfl), h3, p0]
  have p2 : pall ⟨[5, 11], 0⟩ = ([e27b, ⟨11, [], [], [], 0, []⟩], ⟨[], 0⟩) := by rw [pall, dif_pos (by rfl), h2, p1]
  have p3 : pall ⟨[1, 2, 97, 98, 5, 11], 0⟩ = ([e27a, e27b, ⟨11, [], [], [], 0, []⟩], ⟨[], 0⟩) := by rw [pall, dif_pos (by rfl), h1, p2]
  have h : takeS [1, 2, 97, 98, 5, 11] = none := by
    unfold takeS
    rw [p3]
    rfl
  unfold takeL takeE
  rw [h]
  exact ⟨rfl, rfl⟩

theorem okb_e {x : SE} (hg : x.good) (h1 : x.name.length ≤ 100000 ∧ x.path.length ≤ 100000 ∧ x.keep.length ≤ 100000) (h2 : x.tree = []) : x.okb := ⟨hg, h1, by rw [h2]; simp, by rw [h2]; simp⟩
theorem wk_put1 {bn : Nat} {l : List HProp} {w : World} (hE : Ent (pt bn (.cells #[.int .u8 1, .string ⟨#[97, 98]⟩, .string ⟨#[]⟩, .slice none 0 0, .int .u16 0, .string ⟨#[]⟩, .int .u8 5, .string ⟨#[]⟩, .string ⟨#[]⟩, .slice none 0 0, .int .u16 0, .string ⟨#[]⟩] 87) :: l) w) :
    Calls Try.prog 11 #[.slice (some ⟨bn, 0, none⟩) 2 2] w (Ret fun v w' => v = .tuple #[.string ⟨#[1, 2, 97, 98, 5]⟩, .int .i64 0] ∧
      Ent (pt bn (.cells #[.int .u8 1, .string ⟨#[97, 98]⟩, .string ⟨#[]⟩, .slice none 0 0, .int .u16 0, .string ⟨#[]⟩, .int .u8 5, .string ⟨#[]⟩, .string ⟨#[]⟩, .slice none 0 0, .int .u16 0, .string ⟨#[]⟩] 87) :: l) w') := by
  have H := Puts_any (vs := [⟨e27a, none, 0⟩, ⟨e27b, none, 0⟩]) (ao := some ⟨bn, 0, none⟩) (c := 2) hE (by simp)
    (fun v hv => by
      simp only [List.mem_cons, List.not_mem_nil, or_false] at hv
      rcases hv with rfl | rfl
      · exact okb_e (by simp [SE.good, e27a]) (by simp [e27a]) rfl
      · exact okb_e (by simp [SE.good, e27b]) (by simp [e27b]) rfl)
    (fun W hW => reads_pt hW 0 rfl (off := 0) (fun j u hu => by rw [Nat.zero_add, List.getElem?_toArray]; exact hu))
    (fun v hv => by
      simp only [List.mem_cons, List.not_mem_nil, or_false] at hv
      rcases hv with rfl | rfl
      · exact fun _ _ => reads_nil 0 0 rfl _
      · exact fun _ _ => reads_nil 0 0 rfl _)
  rw [show xsOf [⟨e27a, none, 0⟩, ⟨e27b, none, 0⟩] = [e27a, e27b] from rfl, kn_put1.1, kn_put1.2] at H
  exact H
theorem wk_put2 {bn : Nat} {l : List HProp} {w : World} (hE : Ent (pt bn (.cells #[.int .u8 9, .string ⟨#[]⟩, .string ⟨#[]⟩, .slice none 0 0, .int .u16 1, .string ⟨#[]⟩] 87) :: l) w) :
    Calls Try.prog 11 #[.slice (some ⟨bn, 0, none⟩) 1 1] w (Ret fun v w' => v = .tuple #[.string ⟨#[]⟩, .int .i64 3] ∧
      Ent (pt bn (.cells #[.int .u8 9, .string ⟨#[]⟩, .string ⟨#[]⟩, .slice none 0 0, .int .u16 1, .string ⟨#[]⟩] 87) :: l) w') := by
  have H := Puts_any (vs := [⟨e27c, none, 0⟩]) (ao := some ⟨bn, 0, none⟩) (c := 1) hE (by simp)
    (fun v hv => by
      simp only [List.mem_cons, List.not_mem_nil, or_false] at hv
      subst hv
      exact okb_e (by simp [SE.good, e27c]) (by simp [e27c]) rfl)
    (fun W hW => reads_pt hW 0 rfl (off := 0) (fun j u hu => by rw [Nat.zero_add, List.getElem?_toArray]; exact hu))
    (fun v hv => by
      simp only [List.mem_cons, List.not_mem_nil, or_false] at hv
      subst hv
      exact fun _ _ => reads_nil 0 0 rfl _)
  rw [show xsOf [⟨e27c, none, 0⟩] = [e27c] from rfl, kn_put2.1, kn_put2.2] at H
  exact H
theorem wk_take1 {l : List HProp} {w : World} (hE : Ent l w) :
    Calls Try.prog 14 #[.string ⟨#[1, 2, 97, 98, 5]⟩] w (Ret fun v w' => ∃ (ba oa c : Nat) (m : List HProp), v = .tuple #[.slice (some ⟨ba, oa, none⟩) 2 c, .int .i64 0] ∧ Ent (m ++ l) w' ∧
      Knows (m ++ l) (fun w => w.cell? ⟨ba, oa + 1, none⟩ = some (.string ⟨#[97, 98]⟩) ∧ w.cell? ⟨ba, oa + 6, none⟩ = some (.int .u8 5))) := by
  refine (Takes_any (b := [1, 2, 97, 98, 5]) hE (by simp)).mono ?_
  rintro e w2 ⟨v, rfl, vs, ao, c, m, rfl, hx, hE2, hk, _, _⟩
  rw [kn_take1.1] at hx
  rw [kn_take1.2]
  obtain ⟨v0, v1, rfl⟩ : ∃ v0 v1, vs = [v0, v1] := by
    have hl : vs.length = 2 := by
      have := congrArg List.length hx
      simpa [xsOf] using this
    match vs, hl with
    | [v0, v1], _ => exact ⟨v0, v1, rfl⟩
  simp only [xsOf, List.map_cons, List.map_nil, List.cons.injEq, and_true] at hx
  obtain ⟨ba, oa, rfl, _⟩ := reads_form (hk _ hE2) (by simp) (by rw [svCells_len]; simp)
  refine ⟨_, rfl, ba, oa, c, m, rfl, hE2, fun W hW => ?_⟩
  have h0 := sv_cells (hk W hW) (i := 0) (by simp) 1 (.string ⟨#[97, 98]⟩) (by simp [SV.cells, xcells, hx.1, e27a])
  have h1 := sv_cells (hk W hW) (i := 1) (by simp) 0 (.int .u8 5) (by simp [SV.cells, xcells, hx.2, e27b])
  simp only [Addr.add_lit, Nat.zero_mul, Nat.add_zero, Nat.one_mul] at h0 h1
  exact ⟨h0, h1⟩
theorem wk_take2 {l : List HProp} {w : World} (hE : Ent l w) :
    Calls Try.prog 14 #[.string ⟨#[1, 2, 97, 98, 5, 11]⟩] w (Ret fun v w' => ∃ (ao : Option Addr) (c : Nat) (m : List HProp), v = .tuple #[.slice ao 0 c, .int .i64 3] ∧ Ent (m ++ l) w') := by
  refine (Takes_any (b := [1, 2, 97, 98, 5, 11]) hE (by simp)).mono ?_
  rintro e w2 ⟨v, rfl, vs, ao, c, m, rfl, hx, hE2, _, _, _⟩
  rw [kn_take2.1] at hx
  rw [kn_take2.2]
  obtain rfl : vs = [] := by simpa [xsOf] using hx
  exact ⟨_, rfl, ao, c, m, rfl, hE2⟩

set_option maxRecDepth 100000 in
set_option maxHeartbeats 4000000 in
theorem wakes27_any {l : List HProp} {w : World} (hE : Ent l w) :
    Calls Try.prog 10 #[] w (Ret fun v w' => v = .bool true ∧ Ent l w') := by
  go_enter Try.func10, Try.ntmps10
  go_wp2_with (first
    | go_skip
    | ((with_reducible (show Go.wpList _ _ _ (Go.Oper.mk _ (.buildSlice _ 2 _) _ _ _ _ :: _) _ _)); refine wpl_build2 hE rfl rfl (xs := xcells e27a none 0) (ys := xcells e27b none 0) rfl rfl Try.underlying28 (size := 6) (by kernel_rfl) Try.sizeOf87 (by decide) (by decide) rfl rfl ?_; clear hE; intro bn w1 hE1)
    | (go_at_call 11; refine (wk_put1 hE1).mono ?_; clear hE1; rintro e w2 ⟨v, rfl, rfl, hE2⟩)
    | (go_at_call 14; refine (wk_take1 hE2).mono ?_; clear hE2; rintro e w3 ⟨v, rfl, ba, oa, c, m, rfl, hE3, hk⟩)
    | (go_at_call 14; refine (wk_take2 hE3).mono ?_; clear hE3; rintro e w4 ⟨v, rfl, ao2, c2, m2, rfl, hE4⟩; have Hk := SL.hid hk; clear hk)
    | ((with_reducible (show Go.wpList _ _ _ (Go.Oper.mk _ (.buildSlice _ 1 _) _ _ _ _ :: _) _ _)); refine wpl_build1 hE4 rfl rfl (xs := xcells e27c none 0) rfl Try.underlying28 (size := 6) (by kernel_rfl) Try.sizeOf87 (by decide) (by decide) rfl ?_; clear hE4; intro bq w5 hE5)
    | (go_at_call 11; refine (wk_put2 hE5).mono ?_; clear hE5; rintro e w6 ⟨v, rfl, rfl, hE6⟩; obtain ⟨k1, k2⟩ := Hk.out _ hE6.tail.drop))
  go_ret
  exact ⟨_, rfl, rfl, hE6.tail.drop.drop.tail⟩
end Go.Proofs.Ytohdljcpaogokaa
namespace Go.Proofs.Ytohdljcpaogokaa
open Go.RowKit Go.SL

theorem pall_count : ∀ (n : Nat) (s : St), s.bs.length ≤ n → (pall s).1.length ≤ s.bs.length
  | 0, s, h => by
    rw [pall]
    split
    · rename_i hg
      have := pent_less hg
      omega
    · simp
  | n + 1, s, h => by
    rw [pall]
    split
    · rename_i hg
      have h1 := pent_less hg
      have h2 := pall_count n (pent s).2 (by omega)
      simp only [List.length_cons]
      omega
    · simp
theorem takeL_len (b : List UInt8) : (takeL b).length ≤ b.length := by
  unfold takeL takeS
  split
  · split
    · exact pall_count _ ⟨b, 0⟩ (Nat.le_refl _)
    · simp
  · simp
theorem xs_len (vs : List SV) : (xsOf vs).length = vs.length := by simp [xsOf]

set_option maxRecDepth 100000 in
set_option maxHeartbeats 4000000 in
theorem ScriptTells_any {vs : List SV} {ai : Option Addr} {ci : Nat} {b : List UInt8} (hg : ∀ v ∈ vs, v.x.good) {l : List HProp} {w : World} (hE : Ent l w) (hk : Knows l (reads (.slice ai vs.length ci) vs.length (svCells vs))) (hkt : ∀ v ∈ vs, v.known l) :
    Calls Try.prog 3 #[.slice ai vs.length ci, .string ⟨b.toArray⟩] w (Ret fun v w' => v = .bool true ∧ Ent l w') := by
  have Hkt := SL.hid hkt
  have Hgd := SL.hid hg
  clear hkt hg
  have GRT : ∀ {w : World}, Ent l w → Calls Try.prog 9 #[.slice ai vs.length ci] w (Ret fun v w' => GrPost vs v ∧ Ent l w') := fun h => Great27_any h hk Hkt.out
  by_cases h6 : (6000 : Int) < (b.length : Int)
  · go_enter Try.func3, Try.ntmps3
    go_wp2_with (first
      | go_skip
      | (go_at_call 9; refine (GRT hE).mono ?_; clear hE; rintro e w2 ⟨v, rfl, ⟨g, rfl, _⟩, hE⟩; cases g)
      | (go_at_call 10; refine (wakes27_any hE).mono ?_; clear hE; rintro e w3 ⟨v, rfl, rfl, hE⟩))
    all_goals
      go_ret
      exact ⟨_, rfl, rfl, hE⟩
  · have hd : decide ((6000 : Int) < (b.length : Int)) = false := decide_eq_false h6
    have hbl : b.length ≤ 1000000000 := by omega
    have hb6 : b.length ≤ 6000 := by omega
    clear h6
    have htl := takeL_len b
    have Hok := SL.hid (show (∀ v ∈ vs, bndE v.x) → ∀ v ∈ vs, v.x.okb from fun hbd v hv => bnd_okb (Hgd.out v hv) (hbd v hv))
    have hO : vs.length ≤ 100 → ∀ {w : World}, Ent l w → Calls Try.prog 12 #[.slice ai vs.length ci] w (Ret fun v w' => ∃ ao c, v = .slice ao vs.length c ∧ Ent (row 87 6 (.slice ao vs.length c) vs.length (svCells vs) :: l) w') := fun hn _ h => Of27_any h (by omega) hk
    have hP : vs.length ≤ 100 → (∀ v ∈ vs, v.x.okb) → ∀ {ao : Option Addr} {c : Nat} {w : World}, Ent (row 87 6 (.slice ao vs.length c) vs.length (svCells vs) :: l) w → Calls Try.prog 11 #[.slice ao vs.length c] w (Ret fun v w' => v = .tuple #[.string ⟨(putS (xsOf vs)).toArray⟩, .int .i64 (putSE (xsOf vs))] ∧ Ent (row 87 6 (.slice ao vs.length c) vs.length (svCells vs) :: l) w') := fun hn hok _ _ _ h => Puts_any h (by omega) hok (fun w h => reads_row h 0 rfl) (fun v hv => (Hkt.out v hv).cons)
    have hR : vs.length ≤ 100 → ∀ {A : HProp} {w : World}, Ent (A :: l) w → Calls Try.prog 13 #[.slice ai vs.length ci] w (Ret fun v w' => v = .tuple #[.string ⟨(putS (xsOf vs)).toArray⟩, .int .i64 (putSE (xsOf vs))] ∧ Ent (A :: l) w') := fun hn _ _ h => RPuts_any h (by omega) Hgd.out hk.cons (fun v hv => (Hkt.out v hv).cons)
    generalize putS (xsOf vs) = ps at *
    generalize putSE (xsOf vs) = pe at *
    go_enter Try.func3, Try.ntmps3
    go_wp2_with (first
      | go_skip
      | (go_at_call 9; refine (GRT hE).mono ?_; clear hE; rintro e w2 ⟨v, rfl, ⟨g, rfl, hgr⟩, hE⟩; have Hgr := SL.hid hgr; clear hgr; cases g)
      | (go_at_call 10; refine (wakes27_any hE).mono ?_; clear hE; rintro e w3 ⟨v, rfl, rfl, hE9⟩)
      | (go_at_call 12; refine (hO (Hgr.out (by first | exact rfl | trivial)).1 hE).mono ?_; clear hE; rintro e w3 ⟨v, rfl, a3, c3, rfl, hE3⟩)
      | (go_at_call 11; refine (hP (Hgr.out (by first | exact rfl | trivial)).1 (Hok.out (Hgr.out (by first | exact rfl | trivial)).2) hE3).mono ?_; clear hE3; rintro e w4 ⟨v, rfl, rfl, hE4⟩)
      | (go_at_call 13; refine (hR (Hgr.out (by first | exact rfl | trivial)).1 hE4).mono ?_; clear hE4; rintro e w5 ⟨v, rfl, rfl, hE5⟩)
      | (go_at_call 14; refine (Takes_any hE5 hbl).mono ?_; clear hE5; rintro e w6 ⟨v, rfl, vs1, a1, c1, m1, rfl, hx1, hE6, hk1, hkt1, hok1⟩; have Hx1 := SL.hid hx1; have Hkt1 := SL.hid hkt1; have Hok1 := SL.hid hok1; clear hx1 hkt1 hok1)
      | (go_at_call 15; refine (RTakes_any hE6 hbl).mono ?_; clear hE6; rintro e w7 ⟨v, rfl, vs2, a2, c2, m2, rfl, hx2, hE7, hk2, hkt2, hok2⟩; have Hx2 := SL.hid hx2; have Hkt2 := SL.hid hkt2; clear hx2 hkt2 hok2)
      | (go_at_call 16; refine (Same27_any (vs := vs1) (us := vs2) (by rw [Hx1.out, Hx2.out]) (by rw [← xs_len, Hx1.out]; omega) (fun v hv => by have := (Hok1.out v hv).2.2.1; omega) hE7 hk1.append hk2 (fun v hv => (Hkt1.out v hv).append) Hkt2.out).mono ?_; clear hE7; rintro e w8 ⟨v, rfl, rfl, hE8⟩)
      | (go_at_call 10; refine (wakes27_any hE8).mono ?_; clear hE8; rintro e w9 ⟨v, rfl, rfl, hE9⟩))
    all_goals
      go_ret
      first
        | exact ⟨_, rfl, rfl, hE9⟩
        | exact ⟨_, rfl, rfl, hE9.drop.drop.tail⟩
end Go.Proofs.Ytohdljcpaogokaa
namespace Go.Proofs.Ytohdljcpaogokaa
open Go.RowKit Go.SL Go.ChangeShapes Go.WideShapes Go.Deep
section
variable {H : Type} {enc : TypeId × Value → H} {w : World} {held : Bool}

set_option maxRecDepth 100000 in
theorem trod_te {fuel : Nat} {cs : List Value} {y : DataW H × List MemPlace} (hl : cs.length = 3) (h : DataW.trod enc Try.prog w 0 (fun _ => true) held fuel 86 cs = some y) : ∃ t : TE, cs = tcells t := by
  obtain ⟨ys, n, _, _, _, hyl, hg⟩ := DataW.trod_struct Try.underlying86 h
  match cs, hl with
  | [c0, c1, c2], _ =>
    have g0 := hg 0 _ rfl
    have g1 := hg 1 _ rfl
    have g2 := hg 2 _ rfl
    match ys, hyl with
    | [y0, y1, y2], _ =>
      obtain ⟨s, e0, _, _⟩ := DataW.trod_string Try.underlying9 (show DataW.trod enc Try.prog w 0 (fun _ => true) held n 9 [c0] = some y0 from g0)
      obtain ⟨b, e1, _⟩ := DataW.trod_bool Try.underlying4 (show DataW.trod enc Try.prog w 0 (fun _ => true) held n 4 [c1] = some y1 from g1)
      obtain ⟨u, e2, _, _⟩ := DataW.trod_string Try.underlying9 (show DataW.trod enc Try.prog w 0 (fun _ => true) held n 9 [c2] = some y2 from g2)
      simp only [List.cons.injEq, and_true] at e0 e1 e2
      subst e0 e1 e2
      exact ⟨⟨s.data.toList, b, u.data.toList⟩, by simp [tcells]⟩

/-- a slice of a tree's entries in a struct that came in -/
theorem open_tree {fuel : Nat} {v : Value} {y : DataW H × List MemPlace} (h : DataW.trod enc Try.prog w 0 (fun _ => true) held fuel 81 [v] = some y) :
    ∃ (ao : Option Addr) (c : Nat) (t : List TE), v = .slice ao t.length c ∧ reads v t.length (treeCells t) w := by
  have hC : Try.prog.cellsOf 86 = 3 := by kernel_rfl
  rcases open_slice Try.underlying81 h with ⟨hcs, _⟩ | ⟨a, len, c, m, n, D, Pl, hcs, _, hl, hm, hmm, _, hi⟩
  · simp only [List.cons.injEq, and_true] at hcs
    subst hcs
    exact ⟨none, 0, [], rfl, reads_nil 0 0 rfl w⟩
  · simp only [List.cons.injEq, and_true] at hcs
    subst hcs
    simp at hmm
    subst hmm
    obtain ⟨t, h1, h2⟩ := choose_list (fun i (x : TE) => ∀ j u, (tcells x)[j]? = some u → w.cell? (a.add (i * 3 + j)) = some u) len (fun i hil => by
      obtain ⟨cs', hc, htr⟩ := hi i (by omega)
      rw [hC] at hc
      obtain ⟨_, hcl, hat⟩ := World.cells?_some hc
      obtain ⟨x, rfl⟩ := trod_te hcl htr
      refine ⟨x, fun j u hu => ?_⟩
      rw [← Go.Deep.add_add, hat j (by rw [← hcl]; exact (List.getElem?_eq_some_iff.1 hu).1)]
      exact hu)
    subst h1
    refine ⟨some a, _, t, rfl, some a, _, rfl, fun h => (by cases h), fun ad had j u hu => ?_⟩
    cases had
    have hj : j < t.length * 3 := by
      have := (List.getElem?_eq_some_iff.1 hu).1
      rwa [treeCells_len] at this
    have hlt : j / 3 < t.length := by omega
    have hu' : (tcells t[j / 3])[j % 3]? = some u := by
      have h3 := List.getElem?_eq_getElem (l := tcells t[j / 3]) (i := j % 3) (by show j % 3 < 3; omega)
      have h4 := flatMap_at tcells 3 (fun _ => rfl) t (j / 3) (j % 3) _ _ (List.getElem?_eq_getElem hlt) h3
      rw [show j / 3 * 3 + j % 3 = j by omega] at h4
      rw [h3, ← h4]
      exact hu
    have := h2 _ _ (List.getElem?_eq_getElem hlt) _ _ hu'
    rwa [show j / 3 * 3 + j % 3 = j by omega] at this

def SV.goodIn (w : World) (v : SV) : Prop := v.x.good ∧ reads (.slice v.ao v.x.tree.length v.c) v.x.tree.length (treeCells v.x.tree) w
set_option maxRecDepth 100000 in
theorem open_calls {r : Reach} {b0 : Nat} {v : Value} {d : DataW H} {ps : List MemPlace} (hval : Value.okWide Try.prog w r b0 22 v) (h : DataW.Trod enc Try.prog w 0 (fun _ => true) held 22 v d ps) :
    ∃ (ao : Option Addr) (c : Nat) (vs : List SV), v = .slice ao vs.length c ∧ vs.length ≤ c ∧ c ≤ maxLen ∧ (∀ x ∈ vs, x.goodIn w) ∧ reads v vs.length (svCells vs) w :=
  open_row Try.underlying22 SV.cells (SV.goodIn w) (k := 6) (fun _ => rfl) (by omega) (by kernel_rfl) hval h (fun m cs y hl hy => by
    obtain ⟨ys, n, _, _, _, hyl, hg⟩ := DataW.trod_struct Try.underlying84 hy
    match cs, hl with
    | [c0, c1, c2, c3, c4, c5], _ =>
      have g0 := hg 0 _ rfl
      have g1 := hg 1 _ rfl
      have g2 := hg 2 _ rfl
      have g3 := hg 3 _ rfl
      have g4 := hg 4 _ rfl
      have g5 := hg 5 _ rfl
      match ys, hyl with
      | [y0, y1, y2, y3, y4, y5], _ =>
        obtain ⟨n0, e0, _, w0⟩ := DataW.trod_int Try.underlying5 (show DataW.trod enc Try.prog w 0 (fun _ => true) held n 5 [c0] = some y0 from g0)
        obtain ⟨s1, e1, _, _⟩ := DataW.trod_string Try.underlying9 (show DataW.trod enc Try.prog w 0 (fun _ => true) held n 9 [c1] = some y1 from g1)
        obtain ⟨s2, e2, _, _⟩ := DataW.trod_string Try.underlying9 (show DataW.trod enc Try.prog w 0 (fun _ => true) held n 9 [c2] = some y2 from g2)
        obtain ⟨ao, c, t, e3, hr⟩ := open_tree (show DataW.trod enc Try.prog w 0 (fun _ => true) held n 81 [c3] = some y3 from g3)
        obtain ⟨n4, e4, _, w4⟩ := DataW.trod_int Try.underlying82 (show DataW.trod enc Try.prog w 0 (fun _ => true) held n 82 [c4] = some y4 from g4)
        obtain ⟨s5, e5, _, _⟩ := DataW.trod_string Try.underlying9 (show DataW.trod enc Try.prog w 0 (fun _ => true) held n 9 [c5] = some y5 from g5)
        simp only [List.cons.injEq, and_true] at e0 e1 e2 e4 e5
        subst e0 e1 e2 e3 e4 e5
        have b0 : 0 ≤ n0 ∧ n0 ≤ 255 := by simpa [Lit.wf, IntKind.min, IntKind.max, IntKind.signed, IntKind.bits] using w0
        have b4 : 0 ≤ n4 ∧ n4 ≤ 65535 := by simpa [Lit.wf, IntKind.min, IntKind.max, IntKind.signed, IntKind.bits] using w4
        refine ⟨⟨⟨UInt8.ofNat n0.toNat, s1.data.toList, s2.data.toList, t, n4.toNat, s5.data.toList⟩, ao, c⟩, ⟨show n4.toNat < 65536 by omega, hr⟩, ?_⟩
        simp only [SV.cells, xcells, UInt8.toNat_ofNat', show n0.toNat % 2 ^ 8 = n0.toNat by omega, Int.toNat_of_nonneg b0.1, Int.toNat_of_nonneg b4.1, Array.toArray_toList])
end
end Go.Proofs.Ytohdljcpaogokaa
namespace Go.Proofs.Ytohdljcpaogokaa
open Go.RowKit Go.SL

theorem putSE_0 {l : List SE} (hg : ∀ x ∈ l, x.good) (h : putSE l = 0) : takeL (putS l) = l ∧ takeE (putS l) = 0 ∧ (putS l).length ≤ 4000 := by
  unfold putSE at h
  split at h
  · rename_i hm
    split at h
    · rename_i h4
      have e : putS l = allB l := by rw [putS, hm, decide_eq_true h4]; rfl
      rw [e]
      unfold takeL takeE
      rw [takeS_put hg hm, if_pos h4, if_pos h4]
      exact ⟨rfl, rfl, h4⟩
    · simp at h
  · simp at h
theorem takeE_0 {b : List UInt8} (h : takeE b = 0) : putS (takeL b) = b ∧ putSE (takeL b) = 0 := by
  unfold takeE at h
  split at h
  · rename_i h4
    have e : takeL b = (takeS b).getD [] := by rw [takeL, if_pos h4]
    rw [e]
    cases ht : takeS b with
    | none => rw [ht] at h; simp at h
    | some l =>
      simp only [Option.getD_some]
      unfold takeS at ht
      split at ht
      · rename_i hc
        simp only [Bool.and_eq_true, beq_iff_eq] at hc
        obtain ⟨_, hm, hb⟩ := hc
        cases ht
        rw [putS, putSE, hm, hb, decide_eq_true h4]
        simp [h4]
      · cases ht
  · simp at h
theorem takeE_ne {b : List UInt8} (h : takeE b ≠ 0) : takeL b = [] := by
  unfold takeE at h
  split at h
  · rename_i h4
    rw [takeL, if_pos h4]
    cases ht : takeS b with
    | none => rfl
    | some l => rw [ht] at h; simp at h
  · rename_i h4
    rw [takeL, if_neg h4]


set_option maxRecDepth 100000 in
set_option maxHeartbeats 4000000 in
theorem sback_6 {vs : List SV} {ai : Option Addr} {ci : Nat} {b : List UInt8} (hg : ∀ v ∈ vs, v.x.good) {l : List HProp} {w : World} (hE : Ent l w) (hk : Knows l (reads (.slice ai vs.length ci) vs.length (svCells vs))) (hkt : ∀ v ∈ vs, v.known l) (h6 : (6000 : Int) < (b.length : Int)) :
    Calls Try.prog 4 #[.slice ai vs.length ci, .string ⟨b.toArray⟩] w (Ret fun v w' => v = .bool true ∧ Ent l w') := by
  have Hkt := SL.hid hkt
  clear hkt hg
  have GRT : ∀ {w : World}, Ent l w → Calls Try.prog 9 #[.slice ai vs.length ci] w (Ret fun v w' => GrPost vs v ∧ Ent l w') := fun h => Great27_any h hk Hkt.out
  go_enter Try.func4, Try.ntmps4
  go_wp2_with (first
    | go_skip
    | (go_at_call 9; refine (GRT hE).mono ?_; clear hE; rintro e w2 ⟨v, rfl, ⟨g, rfl, _⟩, hE⟩; cases g)
    | (go_at_call 10; refine (wakes27_any hE).mono ?_; clear hE; rintro e w3 ⟨v, rfl, rfl, hE⟩))
  all_goals
    go_ret
    exact ⟨_, rfl, rfl, hE⟩

set_option maxRecDepth 100000 in
set_option maxHeartbeats 4000000 in
theorem sback_11 {vs : List SV} {ai : Option Addr} {ci : Nat} {b : List UInt8} (hg : ∀ v ∈ vs, v.x.good) {l : List HProp} {w : World} (hE : Ent l w) (hk : Knows l (reads (.slice ai vs.length ci) vs.length (svCells vs))) (hkt : ∀ v ∈ vs, v.known l) (h6 : ¬ (6000 : Int) < (b.length : Int)) (he : putSE (xsOf vs) = 0) (hf : takeE b = 0) :
    Calls Try.prog 4 #[.slice ai vs.length ci, .string ⟨b.toArray⟩] w (Ret fun v w' => v = .bool true ∧ Ent l w') := by
  have Hkt := SL.hid hkt
  have Hgd := SL.hid hg
  have GRT : ∀ {w : World}, Ent l w → Calls Try.prog 9 #[.slice ai vs.length ci] w (Ret fun v w' => GrPost vs v ∧ Ent l w') := fun h => Great27_any h hk hkt
  have hd : decide ((6000 : Int) < (b.length : Int)) = false := decide_eq_false h6
  have hbl : b.length ≤ 1000000000 := by omega
  have hb6 : b.length ≤ 6000 := by omega
  clear h6
  have htl := takeL_len b
  have Hok := SL.hid (show (∀ v ∈ vs, bndE v.x) → ∀ v ∈ vs, v.x.okb from fun hbd v hv => bnd_okb (hg v hv) (hbd v hv))
  have hO : vs.length ≤ 100 → ∀ {w : World}, Ent l w → Calls Try.prog 12 #[.slice ai vs.length ci] w (Ret fun v w' => ∃ ao c, v = .slice ao vs.length c ∧ Ent (row 87 6 (.slice ao vs.length c) vs.length (svCells vs) :: l) w') := fun hn _ h => Of27_any h (by omega) hk
  have hP : vs.length ≤ 100 → (∀ v ∈ vs, v.x.okb) → ∀ {ao : Option Addr} {c : Nat} {w : World}, Ent (row 87 6 (.slice ao vs.length c) vs.length (svCells vs) :: l) w → Calls Try.prog 11 #[.slice ao vs.length c] w (Ret fun v w' => v = .tuple #[.string ⟨(putS (xsOf vs)).toArray⟩, .int .i64 (putSE (xsOf vs))] ∧ Ent (row 87 6 (.slice ao vs.length c) vs.length (svCells vs) :: l) w') := fun hn hok _ _ _ h => Puts_any h (by omega) hok (fun w h => reads_row h 0 rfl) (fun v hv => (Hkt.out v hv).cons)
  have hT2 : ∀ {l : List HProp} {w : World}, Ent l w → Calls Try.prog 14 #[.string ⟨b.toArray⟩] w (Ret fun v w' => ∃ (vs : List SV) (ao : Option Addr) (c : Nat) (m : List HProp), v = .tuple #[.slice ao vs.length c, .int .i64 (takeE b)] ∧ xsOf vs = takeL b ∧ Ent (m ++ l) w' ∧
      Knows (m ++ l) (reads (.slice ao vs.length c) vs.length (svCells vs)) ∧ (∀ v ∈ vs, v.known (m ++ l)) ∧ ∀ v ∈ vs, v.x.okb) := fun h => Takes_any h hbl
  obtain ⟨q1, q2, q3⟩ := putSE_0 (l := xsOf vs) (fun x hx => by obtain ⟨v, hv, rfl⟩ := List.mem_map.1 hx; exact hg v hv) he
  rw [he] at hP
  generalize putS (xsOf vs) = ps at *
  have hT1 : ∀ {l : List HProp} {w : World}, Ent l w → Calls Try.prog 14 #[.string ⟨ps.toArray⟩] w (Ret fun v w' => ∃ (vs1 : List SV) (ao : Option Addr) (c : Nat) (m : List HProp), v = .tuple #[.slice ao vs1.length c, .int .i64 0] ∧ xsOf vs1 = xsOf vs ∧ Ent (m ++ l) w' ∧
      Knows (m ++ l) (reads (.slice ao vs1.length c) vs1.length (svCells vs1)) ∧ (∀ v ∈ vs1, v.known (m ++ l)) ∧ ∀ v ∈ vs1, v.x.okb) := fun h => by
    have H := Takes_any (b := ps) h (by omega)
    rw [q1, q2] at H
    exact H
  clear q1 q2 q3 he
  have Hbk := SL.hid (takeE_0 hf)
  rw [hf] at hT2
  clear hf
  clear hkt hg
  go_enter Try.func4, Try.ntmps4
  go_wp2_with (first
    | go_skip
    | (go_at_call 9; refine (GRT hE).mono ?_; clear hE; rintro e w2 ⟨v, rfl, ⟨g, rfl, hgr⟩, hE⟩; have Hgr := SL.hid hgr; clear hgr; cases g)
    | (go_at_call 10; refine (wakes27_any hE).mono ?_; clear hE; rintro e w3 ⟨v, rfl, rfl, hE9⟩)
    | (go_at_call 12; refine (hO (Hgr.out (by first | exact rfl | trivial)).1 hE).mono ?_; clear hE; rintro e w3 ⟨v, rfl, a3, c3, rfl, hE3⟩)
    | (go_at_call 11; refine (hP (Hgr.out (by first | exact rfl | trivial)).1 (Hok.out (Hgr.out (by first | exact rfl | trivial)).2) hE3).mono ?_; clear hE3; rintro e w4 ⟨v, rfl, rfl, hE4⟩)
    | (go_at_call 14; refine (hT1 hE4).mono ?_; clear hE4; rintro e w5 ⟨v, rfl, vs1, a1, c1, m1, rfl, hx1, hE5, hk1, hkt1, hok1⟩; have Hx1 := SL.hid hx1; have Hkt1 := SL.hid hkt1; have Hok1 := SL.hid hok1; clear hx1 hkt1 hok1)
    | (go_at_call 16; refine (Same27_any (vs := vs1) (us := vs) Hx1.out (by have := (Hgr.out (by first | exact rfl | trivial)).1; rw [← xs_len, Hx1.out, xs_len]; omega) (fun v hv => by have := (Hok1.out v hv).2.2.1; omega) hE5 hk1 hk.cons.append Hkt1.out (fun v hv => (Hkt.out v hv).cons.append)).mono ?_; clear hE5; rintro e w6 ⟨v, rfl, rfl, hE6⟩)
    | (go_at_call 14; refine (hT2 hE6).mono ?_; clear hE6; rintro e w7 ⟨v, rfl, vs2, a2, c2, m2, rfl, hx2, hE7, hk2, hkt2, hok2⟩; have Hx2 := SL.hid hx2; have Hkt2 := SL.hid hkt2; have Hok2 := SL.hid hok2; clear hx2 hkt2 hok2)
    | (go_at_call 11; refine (Puts_any (vs := vs2) hE7 (by rw [← xs_len, Hx2.out]; omega) Hok2.out hk2 Hkt2.out).mono ?_; clear hE7; rintro e w8 ⟨v, rfl, rfl, hE8⟩; rw [Hx2.out, Hbk.out.1, Hbk.out.2])
    | (go_at_call 10; refine (wakes27_any hE8).mono ?_; clear hE8; rintro e w9 ⟨v, rfl, rfl, hE9⟩))
  all_goals
    go_ret
    first
      | exact ⟨_, rfl, rfl, hE9⟩
      | exact ⟨_, rfl, rfl, hE9.drop.drop.tail⟩

set_option maxRecDepth 100000 in
set_option maxHeartbeats 4000000 in
theorem sback_10 {vs : List SV} {ai : Option Addr} {ci : Nat} {b : List UInt8} (hg : ∀ v ∈ vs, v.x.good) {l : List HProp} {w : World} (hE : Ent l w) (hk : Knows l (reads (.slice ai vs.length ci) vs.length (svCells vs))) (hkt : ∀ v ∈ vs, v.known l) (h6 : ¬ (6000 : Int) < (b.length : Int)) (he : putSE (xsOf vs) = 0) (hf : takeE b ≠ 0) :
    Calls Try.prog 4 #[.slice ai vs.length ci, .string ⟨b.toArray⟩] w (Ret fun v w' => v = .bool true ∧ Ent l w') := by
  have Hkt := SL.hid hkt
  have Hgd := SL.hid hg
  have GRT : ∀ {w : World}, Ent l w → Calls Try.prog 9 #[.slice ai vs.length ci] w (Ret fun v w' => GrPost vs v ∧ Ent l w') := fun h => Great27_any h hk hkt
  have hd : decide ((6000 : Int) < (b.length : Int)) = false := decide_eq_false h6
  have hbl : b.length ≤ 1000000000 := by omega
  have hb6 : b.length ≤ 6000 := by omega
  clear h6
  have htl := takeL_len b
  have Hok := SL.hid (show (∀ v ∈ vs, bndE v.x) → ∀ v ∈ vs, v.x.okb from fun hbd v hv => bnd_okb (hg v hv) (hbd v hv))
  have hO : vs.length ≤ 100 → ∀ {w : World}, Ent l w → Calls Try.prog 12 #[.slice ai vs.length ci] w (Ret fun v w' => ∃ ao c, v = .slice ao vs.length c ∧ Ent (row 87 6 (.slice ao vs.length c) vs.length (svCells vs) :: l) w') := fun hn _ h => Of27_any h (by omega) hk
  have hP : vs.length ≤ 100 → (∀ v ∈ vs, v.x.okb) → ∀ {ao : Option Addr} {c : Nat} {w : World}, Ent (row 87 6 (.slice ao vs.length c) vs.length (svCells vs) :: l) w → Calls Try.prog 11 #[.slice ao vs.length c] w (Ret fun v w' => v = .tuple #[.string ⟨(putS (xsOf vs)).toArray⟩, .int .i64 (putSE (xsOf vs))] ∧ Ent (row 87 6 (.slice ao vs.length c) vs.length (svCells vs) :: l) w') := fun hn hok _ _ _ h => Puts_any h (by omega) hok (fun w h => reads_row h 0 rfl) (fun v hv => (Hkt.out v hv).cons)
  have hT2 : ∀ {l : List HProp} {w : World}, Ent l w → Calls Try.prog 14 #[.string ⟨b.toArray⟩] w (Ret fun v w' => ∃ (vs : List SV) (ao : Option Addr) (c : Nat) (m : List HProp), v = .tuple #[.slice ao vs.length c, .int .i64 (takeE b)] ∧ xsOf vs = takeL b ∧ Ent (m ++ l) w' ∧
      Knows (m ++ l) (reads (.slice ao vs.length c) vs.length (svCells vs)) ∧ (∀ v ∈ vs, v.known (m ++ l)) ∧ ∀ v ∈ vs, v.x.okb) := fun h => Takes_any h hbl
  obtain ⟨q1, q2, q3⟩ := putSE_0 (l := xsOf vs) (fun x hx => by obtain ⟨v, hv, rfl⟩ := List.mem_map.1 hx; exact hg v hv) he
  rw [he] at hP
  generalize putS (xsOf vs) = ps at *
  have hT1 : ∀ {l : List HProp} {w : World}, Ent l w → Calls Try.prog 14 #[.string ⟨ps.toArray⟩] w (Ret fun v w' => ∃ (vs1 : List SV) (ao : Option Addr) (c : Nat) (m : List HProp), v = .tuple #[.slice ao vs1.length c, .int .i64 0] ∧ xsOf vs1 = xsOf vs ∧ Ent (m ++ l) w' ∧
      Knows (m ++ l) (reads (.slice ao vs1.length c) vs1.length (svCells vs1)) ∧ (∀ v ∈ vs1, v.known (m ++ l)) ∧ ∀ v ∈ vs1, v.x.okb) := fun h => by
    have H := Takes_any (b := ps) h (by omega)
    rw [q1, q2] at H
    exact H
  clear q1 q2 q3 he
  have Hno := SL.hid (takeE_ne hf)
  generalize takeE b = te at *
  have hf' : (te != 0) = true := by simpa using hf
  clear hf
  clear hkt hg
  go_enter Try.func4, Try.ntmps4
  go_wp2_with (first
    | go_skip
    | (go_at_call 9; refine (GRT hE).mono ?_; clear hE; rintro e w2 ⟨v, rfl, ⟨g, rfl, hgr⟩, hE⟩; have Hgr := SL.hid hgr; clear hgr; cases g)
    | (go_at_call 10; refine (wakes27_any hE).mono ?_; clear hE; rintro e w3 ⟨v, rfl, rfl, hE9⟩)
    | (go_at_call 12; refine (hO (Hgr.out (by first | exact rfl | trivial)).1 hE).mono ?_; clear hE; rintro e w3 ⟨v, rfl, a3, c3, rfl, hE3⟩)
    | (go_at_call 11; refine (hP (Hgr.out (by first | exact rfl | trivial)).1 (Hok.out (Hgr.out (by first | exact rfl | trivial)).2) hE3).mono ?_; clear hE3; rintro e w4 ⟨v, rfl, rfl, hE4⟩)
    | (go_at_call 14; refine (hT1 hE4).mono ?_; clear hE4; rintro e w5 ⟨v, rfl, vs1, a1, c1, m1, rfl, hx1, hE5, hk1, hkt1, hok1⟩; have Hx1 := SL.hid hx1; have Hkt1 := SL.hid hkt1; have Hok1 := SL.hid hok1; clear hx1 hkt1 hok1)
    | (go_at_call 16; refine (Same27_any (vs := vs1) (us := vs) Hx1.out (by have := (Hgr.out (by first | exact rfl | trivial)).1; rw [← xs_len, Hx1.out, xs_len]; omega) (fun v hv => by have := (Hok1.out v hv).2.2.1; omega) hE5 hk1 hk.cons.append Hkt1.out (fun v hv => (Hkt.out v hv).cons.append)).mono ?_; clear hE5; rintro e w6 ⟨v, rfl, rfl, hE6⟩)
    | (go_at_call 14; refine (hT2 hE6).mono ?_; clear hE6; rintro e w7 ⟨v, rfl, vs2, a2, c2, m2, rfl, hx2, hE7, hk2, hkt2, hok2⟩; have Hx2 := SL.hid hx2; have Hkt2 := SL.hid hkt2; have Hok2 := SL.hid hok2; clear hx2 hkt2 hok2; obtain rfl : vs2 = [] := (by have h := Hx2.out; rw [Hno.out] at h; exact List.map_eq_nil_iff.1 h))
    | (go_at_call 10; refine (wakes27_any hE7).mono ?_; clear hE7; rintro e w9 ⟨v, rfl, rfl, hE9⟩))
  all_goals
    go_ret
    first
      | exact ⟨_, rfl, rfl, hE9⟩
      | exact ⟨_, rfl, rfl, hE9.drop.drop.tail⟩

set_option maxRecDepth 100000 in
set_option maxHeartbeats 4000000 in
theorem sback_01 {vs : List SV} {ai : Option Addr} {ci : Nat} {b : List UInt8} (hg : ∀ v ∈ vs, v.x.good) {l : List HProp} {w : World} (hE : Ent l w) (hk : Knows l (reads (.slice ai vs.length ci) vs.length (svCells vs))) (hkt : ∀ v ∈ vs, v.known l) (h6 : ¬ (6000 : Int) < (b.length : Int)) (he : putSE (xsOf vs) ≠ 0) (hf : takeE b = 0) :
    Calls Try.prog 4 #[.slice ai vs.length ci, .string ⟨b.toArray⟩] w (Ret fun v w' => v = .bool true ∧ Ent l w') := by
  have Hkt := SL.hid hkt
  have Hgd := SL.hid hg
  have GRT : ∀ {w : World}, Ent l w → Calls Try.prog 9 #[.slice ai vs.length ci] w (Ret fun v w' => GrPost vs v ∧ Ent l w') := fun h => Great27_any h hk hkt
  have hd : decide ((6000 : Int) < (b.length : Int)) = false := decide_eq_false h6
  have hbl : b.length ≤ 1000000000 := by omega
  have hb6 : b.length ≤ 6000 := by omega
  clear h6
  have htl := takeL_len b
  have Hok := SL.hid (show (∀ v ∈ vs, bndE v.x) → ∀ v ∈ vs, v.x.okb from fun hbd v hv => bnd_okb (hg v hv) (hbd v hv))
  have hO : vs.length ≤ 100 → ∀ {w : World}, Ent l w → Calls Try.prog 12 #[.slice ai vs.length ci] w (Ret fun v w' => ∃ ao c, v = .slice ao vs.length c ∧ Ent (row 87 6 (.slice ao vs.length c) vs.length (svCells vs) :: l) w') := fun hn _ h => Of27_any h (by omega) hk
  have hP : vs.length ≤ 100 → (∀ v ∈ vs, v.x.okb) → ∀ {ao : Option Addr} {c : Nat} {w : World}, Ent (row 87 6 (.slice ao vs.length c) vs.length (svCells vs) :: l) w → Calls Try.prog 11 #[.slice ao vs.length c] w (Ret fun v w' => v = .tuple #[.string ⟨(putS (xsOf vs)).toArray⟩, .int .i64 (putSE (xsOf vs))] ∧ Ent (row 87 6 (.slice ao vs.length c) vs.length (svCells vs) :: l) w') := fun hn hok _ _ _ h => Puts_any h (by omega) hok (fun w h => reads_row h 0 rfl) (fun v hv => (Hkt.out v hv).cons)
  have hT2 : ∀ {l : List HProp} {w : World}, Ent l w → Calls Try.prog 14 #[.string ⟨b.toArray⟩] w (Ret fun v w' => ∃ (vs : List SV) (ao : Option Addr) (c : Nat) (m : List HProp), v = .tuple #[.slice ao vs.length c, .int .i64 (takeE b)] ∧ xsOf vs = takeL b ∧ Ent (m ++ l) w' ∧
      Knows (m ++ l) (reads (.slice ao vs.length c) vs.length (svCells vs)) ∧ (∀ v ∈ vs, v.known (m ++ l)) ∧ ∀ v ∈ vs, v.x.okb) := fun h => Takes_any h hbl
  generalize putS (xsOf vs) = ps at *
  generalize putSE (xsOf vs) = pe at *
  have he' : (pe == 0) = false := by simpa using he
  clear he
  have Hbk := SL.hid (takeE_0 hf)
  rw [hf] at hT2
  clear hf
  clear hkt hg
  go_enter Try.func4, Try.ntmps4
  go_wp2_with (first
    | go_skip
    | (go_at_call 9; refine (GRT hE).mono ?_; clear hE; rintro e w2 ⟨v, rfl, ⟨g, rfl, hgr⟩, hE⟩; have Hgr := SL.hid hgr; clear hgr; cases g)
    | (go_at_call 10; refine (wakes27_any hE).mono ?_; clear hE; rintro e w3 ⟨v, rfl, rfl, hE9⟩)
    | (go_at_call 12; refine (hO (Hgr.out (by first | exact rfl | trivial)).1 hE).mono ?_; clear hE; rintro e w3 ⟨v, rfl, a3, c3, rfl, hE3⟩)
    | (go_at_call 11; refine (hP (Hgr.out (by first | exact rfl | trivial)).1 (Hok.out (Hgr.out (by first | exact rfl | trivial)).2) hE3).mono ?_; clear hE3; rintro e w4 ⟨v, rfl, rfl, hE4⟩)
    | (go_at_call 14; refine (hT2 hE4).mono ?_; clear hE4; rintro e w7 ⟨v, rfl, vs2, a2, c2, m2, rfl, hx2, hE7, hk2, hkt2, hok2⟩; have Hx2 := SL.hid hx2; have Hkt2 := SL.hid hkt2; have Hok2 := SL.hid hok2; clear hx2 hkt2 hok2)
    | (go_at_call 11; refine (Puts_any (vs := vs2) hE7 (by rw [← xs_len, Hx2.out]; omega) Hok2.out hk2 Hkt2.out).mono ?_; clear hE7; rintro e w8 ⟨v, rfl, rfl, hE8⟩; rw [Hx2.out, Hbk.out.1, Hbk.out.2])
    | (go_at_call 10; refine (wakes27_any hE8).mono ?_; clear hE8; rintro e w9 ⟨v, rfl, rfl, hE9⟩))
  all_goals
    go_ret
    first
      | exact ⟨_, rfl, rfl, hE9⟩
      | exact ⟨_, rfl, rfl, hE9.drop.tail⟩

set_option maxRecDepth 100000 in
set_option maxHeartbeats 4000000 in
theorem sback_00 {vs : List SV} {ai : Option Addr} {ci : Nat} {b : List UInt8} (hg : ∀ v ∈ vs, v.x.good) {l : List HProp} {w : World} (hE : Ent l w) (hk : Knows l (reads (.slice ai vs.length ci) vs.length (svCells vs))) (hkt : ∀ v ∈ vs, v.known l) (h6 : ¬ (6000 : Int) < (b.length : Int)) (he : putSE (xsOf vs) ≠ 0) (hf : takeE b ≠ 0) :
    Calls Try.prog 4 #[.slice ai vs.length ci, .string ⟨b.toArray⟩] w (Ret fun v w' => v = .bool true ∧ Ent l w') := by
  have Hkt := SL.hid hkt
  have Hgd := SL.hid hg
  have GRT : ∀ {w : World}, Ent l w → Calls Try.prog 9 #[.slice ai vs.length ci] w (Ret fun v w' => GrPost vs v ∧ Ent l w') := fun h => Great27_any h hk hkt
  have hd : decide ((6000 : Int) < (b.length : Int)) = false := decide_eq_false h6
  have hbl : b.length ≤ 1000000000 := by omega
  have hb6 : b.length ≤ 6000 := by omega
  clear h6
  have htl := takeL_len b
  have Hok := SL.hid (show (∀ v ∈ vs, bndE v.x) → ∀ v ∈ vs, v.x.okb from fun hbd v hv => bnd_okb (hg v hv) (hbd v hv))
  have hO : vs.length ≤ 100 → ∀ {w : World}, Ent l w → Calls Try.prog 12 #[.slice ai vs.length ci] w (Ret fun v w' => ∃ ao c, v = .slice ao vs.length c ∧ Ent (row 87 6 (.slice ao vs.length c) vs.length (svCells vs) :: l) w') := fun hn _ h => Of27_any h (by omega) hk
  have hP : vs.length ≤ 100 → (∀ v ∈ vs, v.x.okb) → ∀ {ao : Option Addr} {c : Nat} {w : World}, Ent (row 87 6 (.slice ao vs.length c) vs.length (svCells vs) :: l) w → Calls Try.prog 11 #[.slice ao vs.length c] w (Ret fun v w' => v = .tuple #[.string ⟨(putS (xsOf vs)).toArray⟩, .int .i64 (putSE (xsOf vs))] ∧ Ent (row 87 6 (.slice ao vs.length c) vs.length (svCells vs) :: l) w') := fun hn hok _ _ _ h => Puts_any h (by omega) hok (fun w h => reads_row h 0 rfl) (fun v hv => (Hkt.out v hv).cons)
  have hT2 : ∀ {l : List HProp} {w : World}, Ent l w → Calls Try.prog 14 #[.string ⟨b.toArray⟩] w (Ret fun v w' => ∃ (vs : List SV) (ao : Option Addr) (c : Nat) (m : List HProp), v = .tuple #[.slice ao vs.length c, .int .i64 (takeE b)] ∧ xsOf vs = takeL b ∧ Ent (m ++ l) w' ∧
      Knows (m ++ l) (reads (.slice ao vs.length c) vs.length (svCells vs)) ∧ (∀ v ∈ vs, v.known (m ++ l)) ∧ ∀ v ∈ vs, v.x.okb) := fun h => Takes_any h hbl
  generalize putS (xsOf vs) = ps at *
  generalize putSE (xsOf vs) = pe at *
  have he' : (pe == 0) = false := by simpa using he
  clear he
  have Hno := SL.hid (takeE_ne hf)
  generalize takeE b = te at *
  have hf' : (te != 0) = true := by simpa using hf
  clear hf
  clear hkt hg
  go_enter Try.func4, Try.ntmps4
  go_wp2_with (first
    | go_skip
    | (go_at_call 9; refine (GRT hE).mono ?_; clear hE; rintro e w2 ⟨v, rfl, ⟨g, rfl, hgr⟩, hE⟩; have Hgr := SL.hid hgr; clear hgr; cases g)
    | (go_at_call 10; refine (wakes27_any hE).mono ?_; clear hE; rintro e w3 ⟨v, rfl, rfl, hE9⟩)
    | (go_at_call 12; refine (hO (Hgr.out (by first | exact rfl | trivial)).1 hE).mono ?_; clear hE; rintro e w3 ⟨v, rfl, a3, c3, rfl, hE3⟩)
    | (go_at_call 11; refine (hP (Hgr.out (by first | exact rfl | trivial)).1 (Hok.out (Hgr.out (by first | exact rfl | trivial)).2) hE3).mono ?_; clear hE3; rintro e w4 ⟨v, rfl, rfl, hE4⟩)
    | (go_at_call 14; refine (hT2 hE4).mono ?_; clear hE4; rintro e w7 ⟨v, rfl, vs2, a2, c2, m2, rfl, hx2, hE7, hk2, hkt2, hok2⟩; have Hx2 := SL.hid hx2; have Hkt2 := SL.hid hkt2; have Hok2 := SL.hid hok2; clear hx2 hkt2 hok2; obtain rfl : vs2 = [] := (by have h := Hx2.out; rw [Hno.out] at h; exact List.map_eq_nil_iff.1 h))
    | (go_at_call 10; refine (wakes27_any hE7).mono ?_; clear hE7; rintro e w9 ⟨v, rfl, rfl, hE9⟩))
  all_goals
    go_ret
    first
      | exact ⟨_, rfl, rfl, hE9⟩
      | exact ⟨_, rfl, rfl, hE9.drop.tail⟩

theorem ScriptBack_any {vs : List SV} {ai : Option Addr} {ci : Nat} {b : List UInt8} (hg : ∀ v ∈ vs, v.x.good) {l : List HProp} {w : World} (hE : Ent l w) (hk : Knows l (reads (.slice ai vs.length ci) vs.length (svCells vs))) (hkt : ∀ v ∈ vs, v.known l) :
    Calls Try.prog 4 #[.slice ai vs.length ci, .string ⟨b.toArray⟩] w (Ret fun v w' => v = .bool true ∧ Ent l w') := by
  by_cases h6 : (6000 : Int) < (b.length : Int)
  · exact sback_6 hg hE hk hkt h6
  by_cases he : putSE (xsOf vs) = 0
  · by_cases hf : takeE b = 0
    · exact sback_11 hg hE hk hkt h6 he hf
    · exact sback_10 hg hE hk hkt h6 he hf
  · by_cases hf : takeE b = 0
    · exact sback_01 hg hE hk hkt h6 he hf
    · exact sback_00 hg hE hk hkt h6 he hf

theorem ScriptTells_in {W : World} {vs : List SV} {ai : Option Addr} {ci : Nat} {s : ByteArray} (hg : ∀ v ∈ vs, v.goodIn W) (hk : Knows [rest W fun _ => False] (reads (.slice ai vs.length ci) vs.length (svCells vs))) :
    Calls Try.prog 3 #[.slice ai vs.length ci, .string s] W (Ret fun v w' => v = .bool true ∧ Ent [rest W fun _ => False] w') := by
  have h := ScriptTells_any (b := s.data.toList) (fun v hv => (hg v hv).1) (Ent.start W) hk (fun v hv => knows_start (hg v hv).2)
  have e : (⟨s.data.toList.toArray⟩ : ByteArray) = s := by simp
  rw [e] at h
  exact h
theorem ScriptBack_in {W : World} {vs : List SV} {ai : Option Addr} {ci : Nat} {s : ByteArray} (hg : ∀ v ∈ vs, v.goodIn W) (hk : Knows [rest W fun _ => False] (reads (.slice ai vs.length ci) vs.length (svCells vs))) :
    Calls Try.prog 4 #[.slice ai vs.length ci, .string s] W (Ret fun v w' => v = .bool true ∧ Ent [rest W fun _ => False] w') := by
  have h := ScriptBack_any (b := s.data.toList) (fun v hv => (hg v hv).1) (Ent.start W) hk (fun v hv => knows_start (hg v hv).2)
  have e : (⟨s.data.toList.toArray⟩ : ByteArray) = s := by simp
  rw [e] at h
  exact h
end Go.Proofs.Ytohdljcpaogokaa
