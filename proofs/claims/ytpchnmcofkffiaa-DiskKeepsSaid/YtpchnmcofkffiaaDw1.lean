/-
  The acts of the disk's laws as values; what the test for too many acts and the data of an act are; a read of the disk, whatever it answers.
-/
import Derived.Test.YtpchnmcofkffiaaDk8
import Derived.Test.YtpchnmcofkffiaaDr4
import Derived.Test.YtpchnmcofkffiaaDr5
import Derived.Deep.RegionHeld3
namespace Go.Proofs.Ytpchnmcofkffiaa
open Go.RowKit Go.SL

structure DAct where
  do_ : UInt8
  n : Int
  keep : ByteArray
  c : UInt8
  short : Bool

def DAct.cells (x : DAct) : List Value := [.int .u8 x.do_.toNat, .int .i64 x.n, .string x.keep, .int .u8 x.c.toNat, .bool x.short]
def DAct.good (x : DAct) : Prop := -9223372036854775808 ≤ x.n ∧ x.n ≤ 9223372036854775807
theorem DAct.cells_len (x : DAct) : x.cells.length = 5 := rfl
def actCells (xs : List DAct) : List Value := xs.flatMap DAct.cells

set_option maxRecDepth 100000 in
theorem open_acts {H : Type} {enc : TypeId × Value → H} {w : World} {held : Bool} {r : Reach} {b0 : Nat} {v : Value} {d : DataW H} {ps : List MemPlace}
    (hval : Value.okWide Try.prog w r b0 52 v) (h : DataW.Trod enc Try.prog w 0 (fun _ => true) held 52 v d ps) :
    ∃ (ao : Option Addr) (c : Nat) (xs : List DAct), v = .slice ao xs.length c ∧ xs.length ≤ c ∧ c ≤ maxLen ∧ (∀ x ∈ xs, x.good) ∧ reads v xs.length (actCells xs) w :=
  open_row Try.underlying52 DAct.cells DAct.good DAct.cells_len (by omega) (by kernel_rfl) hval h (fun m cs y hl hy => by
    obtain ⟨ys, n, _, _, _, hyl, hg⟩ := DataW.trod_struct Try.underlying61 hy
    match cs, hl with
    | [c0, c1, c2, c3, c4], _ =>
      have g0 := hg 0 _ rfl
      have g1 := hg 1 _ rfl
      have g2 := hg 2 _ rfl
      have g3 := hg 3 _ rfl
      have g4 := hg 4 _ rfl
      match ys, hyl with
      | [y0, y1, y2, y3, y4], _ =>
        obtain ⟨n0, e0, _, w0⟩ := DataW.trod_int Try.underlying5 (show DataW.trod enc Try.prog w 0 (fun _ => true) held n 5 [c0] = some y0 from g0)
        obtain ⟨n1, e1, _, w1⟩ := DataW.trod_int Try.underlying3 (show DataW.trod enc Try.prog w 0 (fun _ => true) held n 3 [c1] = some y1 from g1)
        obtain ⟨s, e2, _, _⟩ := DataW.trod_string Try.underlying9 (show DataW.trod enc Try.prog w 0 (fun _ => true) held n 9 [c2] = some y2 from g2)
        obtain ⟨n3, e3, _, w3⟩ := DataW.trod_int Try.underlying5 (show DataW.trod enc Try.prog w 0 (fun _ => true) held n 5 [c3] = some y3 from g3)
        obtain ⟨b4, e4, _⟩ := DataW.trod_bool Try.underlying4 (show DataW.trod enc Try.prog w 0 (fun _ => true) held n 4 [c4] = some y4 from g4)
        simp only [List.cons.injEq, and_true] at e0 e1 e2 e3 e4
        subst e0 e1 e2 e3 e4
        have b0 : 0 ≤ n0 ∧ n0 ≤ 255 := by simpa [Lit.wf, IntKind.min, IntKind.max, IntKind.signed, IntKind.bits] using w0
        have b1 : -9223372036854775808 ≤ n1 ∧ n1 ≤ 9223372036854775807 := by simpa [Lit.wf, IntKind.min, IntKind.max, IntKind.signed, IntKind.bits] using w1
        have b3 : 0 ≤ n3 ∧ n3 ≤ 255 := by simpa [Lit.wf, IntKind.min, IntKind.max, IntKind.signed, IntKind.bits] using w3
        refine ⟨⟨UInt8.ofNat n0.toNat, n1, s, UInt8.ofNat n3.toNat, b4⟩, b1, ?_⟩
        simp only [DAct.cells, UInt8.toNat_ofNat', show n0.toNat % 2 ^ 8 = n0.toNat by omega, show n3.toNat % 2 ^ 8 = n3.toNat by omega, Int.toNat_of_nonneg b0.1, Int.toNat_of_nonneg b3.1])

def great4V (xs : List DAct) : Bool := decide (80 < xs.length) || xs.any fun x => decide (40 < x.keep.size)
theorem act_at {xs : List DAct} {k : Nat} (hk : k < xs.length) (j : Nat) (u : Value) (h : (xs[k]).cells[j]? = some u) : (actCells xs)[k * 5 + j]? = some u :=
  flatMap_at DAct.cells 5 DAct.cells_len xs k j _ u (List.getElem?_eq_getElem hk) h
def Great4Rel (xs : List DAct) (i : Value) : Prop := ∃ k : Nat, k ≤ xs.length ∧ i = .int .i64 k ∧ (xs.take k).any (fun x => decide (40 < x.keep.size)) = false

set_option maxRecDepth 100000 in
theorem great4_any {w : World} {xs : List DAct} {ao : Option Addr} {c : Nat} (hr : reads (.slice ao xs.length c) xs.length (actCells xs) w) :
    Calls Try.prog 30 #[.slice ao xs.length c] w (fun e w' => e = .returned (.bool (great4V xs)) ∧ w = w') := by
  cases h60 : decide ((80 : Int) < (xs.length : Int)) with
  | true =>
    have e : great4V xs = true := by simp [great4V] at h60 ⊢; omega
    rw [e]
    go_enter Try.func30, Try.ntmps30
    go_wp2
    go_ret
    exact ⟨rfl, rfl⟩
  | false =>
    have e : great4V xs = xs.any fun x => decide (40 < x.keep.size) := by simp [great4V] at h60 ⊢; omega
    have h60' : xs.length ≤ 80 := by have := of_decide_eq_false h60; omega
    rw [e]
    rcases Nat.eq_zero_or_pos xs.length with h0 | h0
    · obtain rfl := List.eq_nil_of_length_eq_zero h0
      clear hr h0
      go_enter Try.func30, Try.ntmps30
      go_wp2
      go_loop [3] (fun i => i = .int .i64 0) (fun _ => 0)
      case atStart => exact rfl
      case round =>
        obtain rfl := hrel
        go_wp2
        go_ret
        exact ⟨rfl, rfl⟩
    · obtain ⟨b, off, rfl, hc⟩ := reads_form hr h0 (by rw [actCells, flatMap_len _ 5 DAct.cells_len]; omega)
      clear hr
      go_enter Try.func30, Try.ntmps30
      go_wp2
      go_loop [3] (fun i => Great4Rel xs i) (fun i => xs.length - (intOf i).toNat)
      case atStart => exact ⟨0, Nat.zero_le _, rfl, rfl⟩
      case round =>
        obtain ⟨k, hk, rfl, hall⟩ := hrel
        have Hall := SL.hid hall
        clear hall
        by_cases hlt : k < xs.length
        · have hck : w.cell? ⟨b, off + k * 5 + 2, none⟩ = some (.string xs[k].keep) := by rw [Nat.add_assoc]; exact hc _ _ (act_at hlt 2 _ rfl)
          clear hc
          cases h4 : decide ((40 : Int) < (xs[k].keep.size : Int)) with
          | true =>
            have e1 : (xs.any fun x => decide (40 < x.keep.size)) = true := by
              rw [List.any_eq_true]
              exact ⟨xs[k], List.getElem_mem hlt, decide_eq_true (by have := of_decide_eq_true h4; omega)⟩
            have E1 := SL.hid e1
            clear e1
            go_wp2
            go_ret
            exact ⟨by rw [E1.out]; rfl, rfl⟩
          | false =>
            go_wp2
            go_round
            case rel => exact ⟨k + 1, hlt, by simp, by rw [List.take_succ_eq_append_getElem hlt, List.any_append, Hall.out]; have := of_decide_eq_false h4; simp; omega⟩
            case measure => simp [intOf]; omega
        · have E1 := SL.hid (show k = xs.length by omega)
          go_wp2
          go_ret
          have hk := E1.out
          subst hk
          have ha := Hall.out
          rw [List.take_length] at ha
          exact ⟨by rw [ha]; rfl, rfl⟩

def DAct.data (x : DAct) : List UInt8 := if x.short then (fullSec x.c).drop 1 else fullSec x.c
theorem DAct.data_len (x : DAct) : x.data.length = if x.short then 511 else 512 := by
  unfold DAct.data
  cases x.short <;> simp [fullSec_length]

theorem reads_drop {w : World} {g n c : Nat} {bs : List UInt8} (hr : reads (.slice (some ⟨g, 0, none⟩) n c) n (bvals bs) w) (n' c' : Nat) : reads (.slice (some ⟨g, 1, none⟩) n' c') n' (bvals (bs.drop 1)) w := by
  obtain ⟨_, _, e, _, h⟩ := hr
  cases e
  refine ⟨_, _, rfl, fun h => (by cases h), fun ad had j u hu => ?_⟩
  cases had
  have := h _ rfl (1 + j) u (by rw [bvals, List.map_drop, List.getElem?_drop] at hu; exact hu)
  rw [Addr.add_lit] at this ⊢
  rw [← this, Nat.zero_add]

set_option maxRecDepth 100000 in
theorem data_any {l : List HProp} {w : World} (x : DAct) (hE : Ent l w) :
    Calls Try.prog 41 #[.agg #[.int .u8 x.do_.toNat, .int .i64 x.n, .string x.keep, .int .u8 x.c.toNat, .bool x.short]] w (Ret fun v w' => ∃ g o c, v = .slice (some ⟨g, o, none⟩) x.data.length c ∧
      (∀ l', Knows (rowB (some ⟨g, 0, none⟩) 512 (fullSec x.c) :: l') (reads (.slice (some ⟨g, o, none⟩) x.data.length c) x.data.length (bvals x.data))) ∧ Ent (rowB (some ⟨g, 0, none⟩) 512 (fullSec x.c) :: l) w') := by
  cases hs : x.short with
  | true =>
    go_enter Try.func41, Try.ntmps41
    go_wp2_with (first
      | go_skip
      | (go_at_call 33; have H := Full_any x.c hE; refine H.mono ?_; clear H hE; rintro e w2 ⟨v, rfl, g, rfl, hE⟩)
      | (refine wpl_load1 hE 1 rfl rfl rfl rfl (by simp [go_sem]) rfl ?_)
      | (refine wpl_box hE rfl rfl rfl ?_; clear hE; intro b w hE; simp only [Act.eval, Act.put, List.setIfInBounds_toArray, List.set_cons_zero, List.set_cons_succ, getD_lit, List.getD_cons_succ, List.getD_cons_zero, Value.cells] at hE) | (first | (refine wpl_load1 hE 0 rfl rfl rfl rfl (by simp [go_sem]) rfl ?_) | (refine wpl_load1 hE 1 rfl rfl rfl rfl (by simp [go_sem]) rfl ?_) | (refine wpl_load1 hE 2 rfl rfl rfl rfl (by simp [go_sem]) rfl ?_) | (refine wpl_load1 hE 3 rfl rfl rfl rfl (by simp [go_sem]) rfl ?_) | (refine wpl_load1 hE 4 rfl rfl rfl rfl (by simp [go_sem]) rfl ?_) | (refine wpl_load1 hE 5 rfl rfl rfl rfl (by simp [go_sem]) rfl ?_)))
    go_ret
    have e : x.data = (fullSec x.c).drop 1 := by unfold DAct.data; rw [hs]; rfl
    have hl : x.data.length = 511 := by rw [DAct.data_len, hs]; rfl
    refine ⟨_, rfl, g, 1, 511, by rw [hl]; rfl, fun l' w hw => ?_, hE.erase 1⟩
    have h := reads_row hw 0 rfl
    rw [hl, e]
    exact reads_drop h 511 511
  | false =>
    go_enter Try.func41, Try.ntmps41
    go_wp2_with (first
      | go_skip
      | (go_at_call 33; have H := Full_any x.c hE; refine H.mono ?_; clear H hE; rintro e w2 ⟨v, rfl, g, rfl, hE⟩)
      | (refine wpl_load1 hE 1 rfl rfl rfl rfl (by simp [go_sem]) rfl ?_)
      | (refine wpl_box hE rfl rfl rfl ?_; clear hE; intro b w hE; simp only [Act.eval, Act.put, List.setIfInBounds_toArray, List.set_cons_zero, List.set_cons_succ, getD_lit, List.getD_cons_succ, List.getD_cons_zero, Value.cells] at hE) | (first | (refine wpl_load1 hE 0 rfl rfl rfl rfl (by simp [go_sem]) rfl ?_) | (refine wpl_load1 hE 1 rfl rfl rfl rfl (by simp [go_sem]) rfl ?_) | (refine wpl_load1 hE 2 rfl rfl rfl rfl (by simp [go_sem]) rfl ?_) | (refine wpl_load1 hE 3 rfl rfl rfl rfl (by simp [go_sem]) rfl ?_) | (refine wpl_load1 hE 4 rfl rfl rfl rfl (by simp [go_sem]) rfl ?_) | (refine wpl_load1 hE 5 rfl rfl rfl rfl (by simp [go_sem]) rfl ?_)))
    go_ret
    have e : x.data = fullSec x.c := by unfold DAct.data; rw [hs]; rfl
    have hl : x.data.length = 512 := by rw [DAct.data_len, hs]; rfl
    refine ⟨_, rfl, g, 0, 512, by rw [hl]; rfl, fun l' w hw => ?_, hE.erase 1⟩
    have h := reads_row hw 0 rfl
    rw [fullSec_length] at h
    rw [hl, e]
    exact h

/-- a read of the disk, whatever it answers -/
theorem Read_uni {l : List HProp} {w : World} {p : Nat} {s : DS} (k : Int) (hg : s.good) (hE : Ent (disk p s :: l) w) :
    Calls Try.prog 39 #[.pointer (some ⟨p, 0, none⟩), .int .i64 k] w (Ret fun v w' => ∃ ao n c, v = .tuple #[.slice ao n c, .int .i64 (s.readE k)] ∧ n = (s.readB k).length ∧ Ent (view (.slice ao n c) n (bvals (s.readB k)) :: disk p s :: l) w') := by
  have bad : ∀ e, s.readE k = e → s.readB k = [] → Calls Try.prog 39 #[.pointer (some ⟨p, 0, none⟩), .int .i64 k] w (Ret fun v w' => v = .tuple #[.slice none 0 0, .int .i64 e] ∧ Ent (disk p s :: l) w') → Calls Try.prog 39 #[.pointer (some ⟨p, 0, none⟩), .int .i64 k] w (Ret fun v w' => ∃ ao n c, v = .tuple #[.slice ao n c, .int .i64 (s.readE k)] ∧ n = (s.readB k).length ∧ Ent (view (.slice ao n c) n (bvals (s.readB k)) :: disk p s :: l) w') := by
    intro e e1 e2 h
    refine h.mono ?_
    rintro e' w2 ⟨v, rfl, rfl, hE⟩
    refine ⟨_, rfl, none, 0, 0, by rw [e1], by rw [e2]; rfl, ?_⟩
    rw [e2]
    exact (hE.nil 5 1).toView 0 rfl
  cases hd : s.dead with
  | true =>
    obtain ⟨e1, e2⟩ := readE_dead hd k
    refine bad 4 e1 e2 (Read_not 4 _ 4 (powerE_4 hd) rfl (read_errs _ _ (by decide)) (by decide) hE)
  | false =>
    by_cases hk : 0 ≤ k ∧ k < s.on.length
    · obtain ⟨m, rfl⟩ := Int.eq_ofNat_of_zero_le hk.1
      obtain ⟨e1, e2⟩ := readE_ok hd (by omega : m < s.on.length)
      rw [e1, e2]
      refine (Read_any hg hd (by omega) hE).mono ?_
      rintro e w2 ⟨v, rfl, q, rfl, hE⟩
      exact ⟨_, rfl, _, _, _, rfl, (readAt_len hg (by omega)).symm, hE⟩
    · obtain ⟨e1, e2⟩ := readE_bad hd hk
      exact bad 2 e1 e2 (Read_not 0 2 2 (powerE_0 hd) (hasE_2 hk) (read_err2 _) (by decide) hE)
theorem act5 {l : List HProp} {w : World} (hE : Ent l w) (i : Nat) {bx : Nat} {v0 v1 v2 v3 v4 : Value} {T : TypeId} {fz : Nat × Nat} (hi : l[i]? = some (pt bx (.cells #[v0, v1, v2, v3, v4] T fz))) :
    w.cell? ⟨bx, 0, none⟩ = some v0 ∧ w.cell? ⟨bx, 1, none⟩ = some v1 ∧ w.cell? ⟨bx, 2, none⟩ = some v2 ∧ w.cell? ⟨bx, 3, none⟩ = some v3 ∧ w.cell? ⟨bx, 4, none⟩ = some v4 :=
  ⟨hE.cell i hi 0, hE.cell i hi 1, hE.cell i hi 2, hE.cell i hi 3, hE.cell i hi 4⟩
theorem ref6 {l : List HProp} {w : World} (hE : Ent l w) (i : Nat) {bx : Nat} {v0 v1 v2 v3 v4 v5 : Value} {T : TypeId} (hi : l[i]? = some (pt bx (.cells #[v0, v1, v2, v3, v4, v5] T (0, 0)))) :
    (w.cell? ⟨bx, 0, none⟩ = some v0 ∧ w.cell? ⟨bx, 1, none⟩ = some v1 ∧ w.cell? ⟨bx, 2, none⟩ = some v2 ∧ w.cell? ⟨bx, 3, none⟩ = some v3 ∧ w.cell? ⟨bx, 4, none⟩ = some v4 ∧ w.cell? ⟨bx, 5, none⟩ = some v5) ∧ ∀ o, w.frozen? ⟨bx, o, none⟩ = false :=
  ⟨⟨hE.cell i hi 0, hE.cell i hi 1, hE.cell i hi 2, hE.cell i hi 3, hE.cell i hi 4, hE.cell i hi 5⟩, fun o => hE.frozen i hi o⟩


theorem six {cs : List Value} (h : cs.length = 6) : ∃ c0 c1 c2 c3 c4 c5, cs = [c0, c1, c2, c3, c4, c5] := by
  match cs, h with
  | [c0, c1, c2, c3, c4, c5], _ => exact ⟨_, _, _, _, _, _, rfl⟩

def DS.does (s : DS) (x : DAct) : DS :=
  if x.do_ = 0 then s.flushS else if x.do_ = 1 then s.fuseS x.n x.keep else if x.do_ = 2 then s.crashS x.keep else if x.do_ = 3 then s.startS else if x.do_ = 4 then s else s.writeS x.n x.data
end Go.Proofs.Ytpchnmcofkffiaa
