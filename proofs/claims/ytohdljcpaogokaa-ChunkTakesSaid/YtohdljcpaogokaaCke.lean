/-
  The chunk of bytes, as the document takes it.
-/
import Derived.Test.YtohdljcpaogokaaCkd
import Derived.Test.YtohdljcpaogokaaCkb
import Derived.Test.YtohdljcpaogokaaCk7
import Derived.Test.YtohdljcpaogokaaRo3
import Derived.Test.YtohdljcpaogokaaSln
namespace Go.Proofs.Ytohdljcpaogokaa
open Go.RowKit Go.SL

abbrev rowRK (ao : Option Addr) (c : Nat) (ks : List Kid) : HProp := row 118 36 (.slice ao ks.length c) ks.length (kidCells ks)
theorem info_rkid : elemInfo Try.prog 118 = some (some 36, 36, 56) := by kernel_rfl
theorem kz_zero (w : World) : (zeroValue 118).run Try.prog w = .ok (.agg (kcells kz).toArray) w := by
  simp [go_sem]
  rfl

theorem rPut_yes {u : UInt8} {data : List UInt8} {ks : List Kid} {ao : Option Addr} {c : Nat} (hg : ∀ k ∈ ks, k.good) (hm : mayC ⟨u, data, ks⟩ = true) {l : List HProp} {w : World} (hE : Ent l w) (hk : Knows l (reads (.slice ao ks.length c) ks.length (kidCells ks))) :
    Calls Try.prog 65 #[.agg #[.int .u8 u.toNat, .string ⟨data.toArray⟩, .slice ao ks.length c]] w (Ret fun v w' => v = .string ⟨(putC ⟨u, data, ks⟩).toArray⟩ ∧ Ent l w') := by
  have h6 := mayC_kids hm
  cases h1 : u == 1 with
  | true =>
    obtain rfl : u = 1 := by simpa using h1
    obtain ⟨rfl, hd⟩ := mayC_1 hm
    exact rPut_1 (by omega) hE
  | false =>
    obtain ⟨rfl, rfl | rfl⟩ := mayC_not1 h1 hm
    · exact rPut_2 hg h6 hE hk
    · exact rPut_3 hg h6 (fun k hk => mayC_dir hm rfl k hk) hE hk

/-- a hash copied over a hash of zeros -/
theorem kcopy {k : Kid} (h : k.hash = hz) (s : St) : (kcells k).take 2 ++ ((txV 32 s).map fun b => Value.int .u8 b.toNat) ++ (kcells k).drop (2 + (txV 32 s).length) = kcells { k with hash := hxV s } := by
  rcases tk_cases' 32 s with ⟨h0, _, h2⟩ | ⟨_, n, hn, hle, h0, _, h2⟩
  · have e : hxV s = hz := by simp only [hxV, hashT, h0, Bool.false_eq_true, if_false]
    rw [h2, e, ← h]
    simp
  · obtain rfl : n = 32 := by omega
    have e : hxV s = s.bs.take 32 := by simp only [hxV, hashT, h0, if_true]; rfl
    have hl : (s.bs.take 32).length = 32 := by rw [List.length_take]; omega
    rw [h2, e]
    have := kset2 (k := k) (hs := s.bs.take 32) (by rw [h]; rfl) hl
    simp only [List.toList_toArray, Value.cells, bvals_length] at this
    exact this
theorem txV32_le (s : St) : (txV 32 s).length ≤ 32 := by
  rcases tk_cases' 32 s with ⟨h0, _, h2⟩ | ⟨_, n, hn, hle, h0, _, h2⟩
  · rw [h2]; simp
  · rw [h2, List.length_take]; omega
theorem resC_nil : resC [] = ⟨0, [], []⟩ ∧ errC [] = 3 := takeC_bad (by rfl)

def RTakeRel (d : Bool) (s2 : St) (n : Nat) (b5 b4 : Nat) (u : Int) (l : List HProp) (i : Value) (wr : World) : Prop :=
  ∃ k ao c, k ≤ n ∧ i = .int .u64 (k : Nat) ∧ Ent (pt b5 (.cells (rcs (pkids d k s2).2).toArray 108) :: pt b4 (.cells #[.int .u8 u, .string ⟨#[]⟩, .slice ao (pkids d k s2).1.length c] 45) :: rowRK ao c (pkids d k s2).1 :: l) wr

set_option maxRecDepth 100000 in
set_option maxHeartbeats 4000000 in
theorem rTake_nil  {l : List HProp} {w : World} (hE : Ent l w) :
    Calls Try.prog 19 #[.string ⟨([] : List UInt8).toArray⟩] w (Ret fun v w' => ∃ ao c, v = .tuple #[.agg #[.int .u8 (resC ([] : List UInt8)).kind.toNat, .string ⟨(resC ([] : List UInt8)).data.toArray⟩, .slice ao (resC ([] : List UInt8)).kids.length c], .int .i64 (errC ([] : List UInt8))] ∧ Ent (rowRK ao c (resC ([] : List UInt8)).kids :: l) w') := by
  obtain ⟨r1, r2⟩ := resC_nil
  have R1 := SL.hid r1
  have R2 := SL.hid r2
  clear r1 r2
  go_enter Try.func19, Try.ntmps19
  go_wp2_with (first
    | go_skip
    | ((with_reducible (show Go.wpList _ _ _ (Go.Oper.mk _ (.alloc _) _ _ _ _ :: _) _ _)); refine wpl_alloc hE rfl rfl (by simp [go_sem]; rfl) ?_; clear hE; intro b2 w hE; simp only [Act.eval, Act.put, List.setIfInBounds_toArray, List.set_cons_zero, List.set_cons_succ, getD_lit, List.getD_cons_succ, List.getD_cons_zero, Value.cells] at hE)
    | (refine wpl_storeW hE 0 rfl rfl rfl (xs := [.int .u8 0, .string ⟨#[]⟩, .slice none 0 0]) rfl rfl Try.sizeOf45 rfl (by simp [Value.oneCell']) rfl ?_; clear hE; intro w hE; simp only [List.set_cons_zero, List.set_cons_succ] at hE))
  refine bodyPost_ret (results_cell2 rfl hE 0 rfl rfl Try.isAgg45 Try.sizeOf45 rfl rfl) rfl ?_
  exact ⟨_, rfl, none, 0, by rw [R1.out, R2.out]; rfl, by rw [R1.out]; exact hE.tail.nil _ _⟩

set_option maxRecDepth 100000 in
set_option maxHeartbeats 4000000 in
theorem rTake_one {x : UInt8} {r : List UInt8} (hb : (x :: r).length ≤ 1000000) (h1 : ((x.toNat : Int) == 1) = true) {l : List HProp} {w : World} (hE : Ent l w) :
    Calls Try.prog 19 #[.string ⟨(x :: r).toArray⟩] w (Ret fun v w' => ∃ ao c, v = .tuple #[.agg #[.int .u8 (resC (x :: r)).kind.toNat, .string ⟨(resC (x :: r)).data.toArray⟩, .slice ao (resC (x :: r)).kids.length c], .int .i64 (errC (x :: r))] ∧ Ent (rowRK ao c (resC (x :: r)).kids :: l) w') := by
  have hix : ∀ w, (Instr.index 9 (.string ⟨(x :: r).toArray⟩) (.int .i64 0)).run Try.prog w = .ok (.int .u8 (x.toNat : Int)) w := fun w => run_index_s (P := Try.prog) Try.underlying9 (bs := x :: r) (k := 0) (by simp) w
  have hsl : ∀ w, (Instr.sliceAt 9 (.string ⟨(x :: r).toArray⟩) (some (.int .i64 1)) none none).run Try.prog w = .ok (.string ⟨r.toArray⟩) w := fun w => run_slice_sLo (P := Try.prog) Try.underlying9 (bs := x :: r) (k := 1) (by simp) w
  have h00 : (((x :: r).length : Int) == 0) = false := by simp; omega
  have htk : tk 1 ⟨x :: r, 0⟩ = ⟨r, 0⟩ ∧ tkV 1 ⟨x :: r, 0⟩ = x.toNat := by
    have := tk1_app x.toNat r x.toNat_lt
    rwa [be_one'] at this
  have hrl : r.length ≤ 1000000 := by simp at hb; omega
  have hl2 : (tk 1 ⟨r, 0⟩).bs.length ≤ r.length := tk_len _ _
  have hnn : tkV 1 ⟨r, 0⟩ < 256 := tkV1_lt _
  have hT2 : ∀ {l : List HProp} {w : World}, Ent l w → Calls Try.prog 61 #[.agg (rcs ⟨r, 0⟩).toArray, .int .i64 1] w (Ret fun v w' => v = .tuple #[.int .u64 (tkV 1 ⟨r, 0⟩), .agg (rcs (tk 1 ⟨r, 0⟩)).toArray] ∧ Ent l w') := fun h => rTake_1 (s := ⟨r, 0⟩) h (by show r.length ≤ _; omega)
  obtain rfl : x = 1 := u_is (n := 1) (by omega) h1
  have hdat : tx r.length ⟨r, 0⟩ = ⟨[], 0⟩ ∧ txV r.length ⟨r, 0⟩ = r := by
    have := tx_app r []
    rwa [List.append_nil] at this
  have hp1 : (pchunk (1 :: r)).1 = ⟨1, r, []⟩ := by
    unfold pchunk
    simp only [htk.1, htk.2, show UInt8.ofNat (1 : UInt8).toNat = 1 from rfl, show ((1 : UInt8) == 1) = true from rfl, if_true, hdat.2]
  clear hdat htk h1
  generalize tk 1 ⟨r, 0⟩ = s2 at hl2 hT2
  generalize tkV 1 ⟨r, 0⟩ = n at hnn hT2
  simp only [show (((1 : UInt8).toNat : Nat) : Int) = 1 from rfl] at hix
  generalize hbs : (1 :: r) = bs at *
  have hrb : bs.toArray = (1 :: r).toArray := by rw [hbs]
  clear hrb
  cases hm : mayC (pchunk bs).1 with
  | false =>
    obtain ⟨r1, r2⟩ := takeC_bad (bs := bs) (by rw [hm]; rfl)
    have R1 := SL.hid r1
    have R2 := SL.hid r2
    clear r1 r2
    have P1 := SL.hid hp1
    have Hm := SL.hid (show mayC ⟨1, r, ([] : List Kid)⟩ = false by rw [← hp1]; exact hm)
    have Hgk := SL.hid (show ∀ k ∈ ([] : List Kid), k.good by simp)
    have Hlk := SL.hid (show ([] : List Kid).length ≤ 1000 by simp)
    clear hm hp1 hbs
    go_enter Try.func19, Try.ntmps19
    go_wp2_with (first
      | go_skip
      | ((with_reducible (show Go.wpList _ _ _ (Go.Oper.mk _ (.alloc 45) _ _ _ _ :: _) _ _)); refine wpl_alloc hE rfl rfl (by simp [go_sem]; rfl) ?_; clear hE; intro b2 w hE1; simp only [Act.eval, Act.put, List.setIfInBounds_toArray, List.set_cons_zero, List.set_cons_succ, getD_lit, List.getD_cons_succ, List.getD_cons_zero, Value.cells] at hE1)
      | ((with_reducible (show Go.wpList _ _ _ (Go.Oper.mk _ (.alloc 45) _ _ _ _ :: _) _ _)); refine wpl_alloc hE1 rfl rfl (by simp [go_sem]; rfl) ?_; clear hE1; intro b4 w hE2; simp only [Act.eval, Act.put, List.setIfInBounds_toArray, List.set_cons_zero, List.set_cons_succ, getD_lit, List.getD_cons_succ, List.getD_cons_zero, Value.cells] at hE2)
      | ((with_reducible (show Go.wpList _ _ _ (Go.Oper.mk _ (.store 45 _ _) _ _ _ _ :: _) _ _)); refine wpl_storeW hE2 0 rfl rfl rfl (xs := [.int .u8 1, .string ⟨#[]⟩, .slice none 0 0]) rfl rfl Try.sizeOf45 rfl (by simp [Value.oneCell']) rfl ?_; clear hE2; intro w hE3; simp only [List.set_cons_zero, List.set_cons_succ] at hE3)
      | ((with_reducible (show Go.wpList _ _ _ (Go.Oper.mk _ (.load 5 _) _ _ _ _ :: _) _ _)); refine wpl_load1 hE3 0 rfl rfl rfl rfl (by simp [go_sem]) rfl ?_)
      | ((with_reducible (show Go.wpList _ _ _ (Go.Oper.mk _ (.store 9 _ _) _ _ _ _ :: _) _ _)); refine wpl_store hE3 0 rfl rfl rfl rfl rfl (by simp [go_sem]; rfl) (by rfl) (by simp [Value.cells, Value.oneCell', Act.eval]) (by simp) ?_; clear hE3; intro w hE4; simp only [Act.eval, getD_lit, List.getD_cons_succ, List.getD_cons_zero, Value.cells, List.set_cons_zero, List.set_cons_succ, List.take_succ_cons, List.take_zero, List.nil_append, List.cons_append, List.drop_succ_cons, List.drop_zero, List.length_cons, List.length_nil, Nat.reduceAdd, Nat.zero_add] at hE4)
      | ((with_reducible (show Go.wpList _ _ _ (Go.Oper.mk _ (.alloc 108) _ _ _ _ :: _) _ _)); refine wpl_alloc hE4 rfl rfl (by simp [go_sem]; rfl) ?_; clear hE4; intro b5 w hE5; simp only [Act.eval, Act.put, List.setIfInBounds_toArray, List.set_cons_zero, List.set_cons_succ, getD_lit, List.getD_cons_succ, List.getD_cons_zero, Value.cells] at hE5)
      | ((with_reducible (show Go.wpList _ _ _ (Go.Oper.mk _ (.store 108 (.tmp 5) _) _ _ _ _ :: _) _ _)); refine wpl_storeW hE5 0 rfl rfl rfl (xs := rcs ⟨r, 0⟩) rfl rfl Try.sizeOf108 rfl (by simp [rcs, Value.oneCell']) rfl ?_; clear hE5; intro w hE6; simp only [List.set_cons_zero, List.set_cons_succ] at hE6)
      | ((with_reducible (show Go.wpList _ _ _ (Go.Oper.mk _ (.load 108 (.tmp 5)) _ _ _ _ :: _) _ _)); refine wpl_loadW hE6 0 rfl rfl rfl rfl Try.isAgg108 Try.sizeOf108 (xs := rcs ⟨r, 0⟩) rfl ?_)
      | (go_at_call 61; have H := hT2 hE6; refine H.mono ?_; clear H hE6; rintro e w2 ⟨v, rfl, rfl, hE7⟩)
      | ((with_reducible (show Go.wpList _ _ _ (Go.Oper.mk _ (.store 108 (.tmp 5) _) _ _ _ _ :: _) _ _)); refine wpl_storeW hE7 0 rfl rfl rfl (xs := rcs s2) rfl rfl Try.sizeOf108 rfl (by simp [rcs, Value.oneCell']) rfl ?_; clear hE7; intro w hE; simp only [List.set_cons_zero, List.set_cons_succ] at hE))
    go_loop [7] (fun i => i = .int .u64 0) (fun _ => 0)
    case atStart => exact rfl
    case round =>
      obtain rfl := hrel
      by_cases h0n : 0 < n
      all_goals
        go_wp2_with (first
          | go_skip
          | ((with_reducible (show Go.wpList _ _ _ (Go.Oper.mk _ (.load 5 _) _ _ _ _ :: _) _ _)); refine wpl_load1 hE 1 rfl rfl rfl rfl (by simp [go_sem]) rfl ?_)
          | ((with_reducible (show Go.wpList _ _ _ (Go.Oper.mk _ (.load 45 _) _ _ _ _ :: _) _ _)); refine wpl_loadW hE 1 rfl rfl rfl rfl Try.isAgg45 Try.sizeOf45 (xs := [.int .u8 1, .string ⟨r.toArray⟩, .slice none 0 0]) rfl ?_)
          | (go_at_call 64; have H := rMay_any (u := 1) (data := r) (ks := ([] : List Kid)) Hgk.out (by have := Hlk.out; omega) hE (fun _ _ => reads_nil 0 0 rfl _); rw [Hm.out] at H; refine H.mono ?_; clear H hE; rintro e w6 ⟨v, rfl, rfl, hE6⟩)
          | (refine wpl_storeW hE6 2 rfl rfl rfl (xs := [.int .u8 0, .string ⟨#[]⟩, .slice none 0 0]) rfl rfl Try.sizeOf45 rfl (by simp [Value.oneCell']) rfl ?_; clear hE6; intro w hE8; simp only [List.set_cons_zero, List.set_cons_succ] at hE8))
        refine bodyPost_ret (results_cell2 rfl hE8 2 rfl rfl Try.isAgg45 Try.sizeOf45 rfl rfl) rfl ?_
        exact ⟨_, rfl, none, 0, by rw [R1.out, R2.out]; rfl, by rw [R1.out]; exact (hE8.tail.tail.tail).nil _ _⟩
  | true =>
    cases hq : (putC (pchunk bs).1 == bs) with
    | false =>
      obtain ⟨r1, r2⟩ := takeC_bad (bs := bs) (by rw [hm, hq]; rfl)
      have R1 := SL.hid r1
      have R2 := SL.hid r2
      clear r1 r2
      have P1 := SL.hid hp1
      have Hm := SL.hid (show mayC ⟨1, r, ([] : List Kid)⟩ = true by rw [← hp1]; exact hm)
      generalize hpp : putC ⟨1, r, ([] : List Kid)⟩ = pp
      have hq' : (pp == bs) = false := by rw [← hpp, ← hp1]; exact hq
      have Hpp := SL.hid hpp
      clear hq hpp
      have Hgk := SL.hid (show ∀ k ∈ ([] : List Kid), k.good by simp)
      have Hlk := SL.hid (show ([] : List Kid).length ≤ 1000 by simp)
      clear hm hp1 hbs
      go_enter Try.func19, Try.ntmps19
      go_wp2_with (first
        | go_skip
        | ((with_reducible (show Go.wpList _ _ _ (Go.Oper.mk _ (.alloc 45) _ _ _ _ :: _) _ _)); refine wpl_alloc hE rfl rfl (by simp [go_sem]; rfl) ?_; clear hE; intro b2 w hE1; simp only [Act.eval, Act.put, List.setIfInBounds_toArray, List.set_cons_zero, List.set_cons_succ, getD_lit, List.getD_cons_succ, List.getD_cons_zero, Value.cells] at hE1)
        | ((with_reducible (show Go.wpList _ _ _ (Go.Oper.mk _ (.alloc 45) _ _ _ _ :: _) _ _)); refine wpl_alloc hE1 rfl rfl (by simp [go_sem]; rfl) ?_; clear hE1; intro b4 w hE2; simp only [Act.eval, Act.put, List.setIfInBounds_toArray, List.set_cons_zero, List.set_cons_succ, getD_lit, List.getD_cons_succ, List.getD_cons_zero, Value.cells] at hE2)
        | ((with_reducible (show Go.wpList _ _ _ (Go.Oper.mk _ (.store 45 _ _) _ _ _ _ :: _) _ _)); refine wpl_storeW hE2 0 rfl rfl rfl (xs := [.int .u8 1, .string ⟨#[]⟩, .slice none 0 0]) rfl rfl Try.sizeOf45 rfl (by simp [Value.oneCell']) rfl ?_; clear hE2; intro w hE3; simp only [List.set_cons_zero, List.set_cons_succ] at hE3)
        | ((with_reducible (show Go.wpList _ _ _ (Go.Oper.mk _ (.load 5 _) _ _ _ _ :: _) _ _)); refine wpl_load1 hE3 0 rfl rfl rfl rfl (by simp [go_sem]) rfl ?_)
        | ((with_reducible (show Go.wpList _ _ _ (Go.Oper.mk _ (.store 9 _ _) _ _ _ _ :: _) _ _)); refine wpl_store hE3 0 rfl rfl rfl rfl rfl (by simp [go_sem]; rfl) (by rfl) (by simp [Value.cells, Value.oneCell', Act.eval]) (by simp) ?_; clear hE3; intro w hE4; simp only [Act.eval, getD_lit, List.getD_cons_succ, List.getD_cons_zero, Value.cells, List.set_cons_zero, List.set_cons_succ, List.take_succ_cons, List.take_zero, List.nil_append, List.cons_append, List.drop_succ_cons, List.drop_zero, List.length_cons, List.length_nil, Nat.reduceAdd, Nat.zero_add] at hE4)
        | ((with_reducible (show Go.wpList _ _ _ (Go.Oper.mk _ (.alloc 108) _ _ _ _ :: _) _ _)); refine wpl_alloc hE4 rfl rfl (by simp [go_sem]; rfl) ?_; clear hE4; intro b5 w hE5; simp only [Act.eval, Act.put, List.setIfInBounds_toArray, List.set_cons_zero, List.set_cons_succ, getD_lit, List.getD_cons_succ, List.getD_cons_zero, Value.cells] at hE5)
        | ((with_reducible (show Go.wpList _ _ _ (Go.Oper.mk _ (.store 108 (.tmp 5) _) _ _ _ _ :: _) _ _)); refine wpl_storeW hE5 0 rfl rfl rfl (xs := rcs ⟨r, 0⟩) rfl rfl Try.sizeOf108 rfl (by simp [rcs, Value.oneCell']) rfl ?_; clear hE5; intro w hE6; simp only [List.set_cons_zero, List.set_cons_succ] at hE6)
        | ((with_reducible (show Go.wpList _ _ _ (Go.Oper.mk _ (.load 108 (.tmp 5)) _ _ _ _ :: _) _ _)); refine wpl_loadW hE6 0 rfl rfl rfl rfl Try.isAgg108 Try.sizeOf108 (xs := rcs ⟨r, 0⟩) rfl ?_)
        | (go_at_call 61; have H := hT2 hE6; refine H.mono ?_; clear H hE6; rintro e w2 ⟨v, rfl, rfl, hE7⟩)
        | ((with_reducible (show Go.wpList _ _ _ (Go.Oper.mk _ (.store 108 (.tmp 5) _) _ _ _ _ :: _) _ _)); refine wpl_storeW hE7 0 rfl rfl rfl (xs := rcs s2) rfl rfl Try.sizeOf108 rfl (by simp [rcs, Value.oneCell']) rfl ?_; clear hE7; intro w hE; simp only [List.set_cons_zero, List.set_cons_succ] at hE))
      go_loop [7] (fun i => i = .int .u64 0) (fun _ => 0)
      case atStart => exact rfl
      case round =>
        obtain rfl := hrel
        by_cases h0n : 0 < n
        all_goals
          go_wp2_with (first
            | go_skip
            | ((with_reducible (show Go.wpList _ _ _ (Go.Oper.mk _ (.load 5 _) _ _ _ _ :: _) _ _)); refine wpl_load1 hE 1 rfl rfl rfl rfl (by simp [go_sem]) rfl ?_)
            | ((with_reducible (show Go.wpList _ _ _ (Go.Oper.mk _ (.load 45 _) _ _ _ _ :: _) _ _)); refine wpl_loadW hE 1 rfl rfl rfl rfl Try.isAgg45 Try.sizeOf45 (xs := [.int .u8 1, .string ⟨r.toArray⟩, .slice none 0 0]) rfl ?_)
            | (go_at_call 64; have H := rMay_any (u := 1) (data := r) (ks := ([] : List Kid)) Hgk.out (by have := Hlk.out; omega) hE (fun _ _ => reads_nil 0 0 rfl _); rw [Hm.out] at H; refine H.mono ?_; clear H hE; rintro e w6 ⟨v, rfl, rfl, hE6⟩)
            | ((with_reducible (show Go.wpList _ _ _ (Go.Oper.mk _ (.load 45 _) _ _ _ _ :: _) _ _)); refine wpl_loadW hE6 1 rfl rfl rfl rfl Try.isAgg45 Try.sizeOf45 (xs := [.int .u8 1, .string ⟨r.toArray⟩, .slice none 0 0]) rfl ?_)
            | (go_at_call 65; have H := rPut_yes (u := 1) (data := r) (ks := ([] : List Kid)) Hgk.out Hm.out hE6 (fun _ _ => reads_nil 0 0 rfl _); rw [Hpp.out] at H; refine H.mono ?_; clear H hE6; rintro e w6 ⟨v, rfl, rfl, hE7⟩)
            | (refine wpl_storeW hE7 2 rfl rfl rfl (xs := [.int .u8 0, .string ⟨#[]⟩, .slice none 0 0]) rfl rfl Try.sizeOf45 rfl (by simp [Value.oneCell']) rfl ?_; clear hE7; intro w hE8; simp only [List.set_cons_zero, List.set_cons_succ] at hE8))
          refine bodyPost_ret (results_cell2 rfl hE8 2 rfl rfl Try.isAgg45 Try.sizeOf45 rfl rfl) rfl ?_
          exact ⟨_, rfl, none, 0, by rw [R1.out, R2.out]; rfl, by rw [R1.out]; exact (hE8.tail.tail.tail).nil _ _⟩
    | true =>
      obtain ⟨r1, r2, _⟩ := takeC_good hm hq
      have R1 := SL.hid r1
      have R2 := SL.hid r2
      clear r1 r2
      have P1 := SL.hid hp1
      have Hm := SL.hid (show mayC ⟨1, r, ([] : List Kid)⟩ = true by rw [← hp1]; exact hm)
      generalize hpp : putC ⟨1, r, ([] : List Kid)⟩ = pp
      have hq' : (pp == bs) = true := by rw [← hpp, ← hp1]; exact hq
      have Hpp := SL.hid hpp
      clear hq hpp
      have Hgk := SL.hid (show ∀ k ∈ ([] : List Kid), k.good by simp)
      have Hlk := SL.hid (show ([] : List Kid).length ≤ 1000 by simp)
      clear hm hp1 hbs
      go_enter Try.func19, Try.ntmps19
      go_wp2_with (first
        | go_skip
        | ((with_reducible (show Go.wpList _ _ _ (Go.Oper.mk _ (.alloc 45) _ _ _ _ :: _) _ _)); refine wpl_alloc hE rfl rfl (by simp [go_sem]; rfl) ?_; clear hE; intro b2 w hE1; simp only [Act.eval, Act.put, List.setIfInBounds_toArray, List.set_cons_zero, List.set_cons_succ, getD_lit, List.getD_cons_succ, List.getD_cons_zero, Value.cells] at hE1)
        | ((with_reducible (show Go.wpList _ _ _ (Go.Oper.mk _ (.alloc 45) _ _ _ _ :: _) _ _)); refine wpl_alloc hE1 rfl rfl (by simp [go_sem]; rfl) ?_; clear hE1; intro b4 w hE2; simp only [Act.eval, Act.put, List.setIfInBounds_toArray, List.set_cons_zero, List.set_cons_succ, getD_lit, List.getD_cons_succ, List.getD_cons_zero, Value.cells] at hE2)
        | ((with_reducible (show Go.wpList _ _ _ (Go.Oper.mk _ (.store 45 _ _) _ _ _ _ :: _) _ _)); refine wpl_storeW hE2 0 rfl rfl rfl (xs := [.int .u8 1, .string ⟨#[]⟩, .slice none 0 0]) rfl rfl Try.sizeOf45 rfl (by simp [Value.oneCell']) rfl ?_; clear hE2; intro w hE3; simp only [List.set_cons_zero, List.set_cons_succ] at hE3)
        | ((with_reducible (show Go.wpList _ _ _ (Go.Oper.mk _ (.load 5 _) _ _ _ _ :: _) _ _)); refine wpl_load1 hE3 0 rfl rfl rfl rfl (by simp [go_sem]) rfl ?_)
        | ((with_reducible (show Go.wpList _ _ _ (Go.Oper.mk _ (.store 9 _ _) _ _ _ _ :: _) _ _)); refine wpl_store hE3 0 rfl rfl rfl rfl rfl (by simp [go_sem]; rfl) (by rfl) (by simp [Value.cells, Value.oneCell', Act.eval]) (by simp) ?_; clear hE3; intro w hE4; simp only [Act.eval, getD_lit, List.getD_cons_succ, List.getD_cons_zero, Value.cells, List.set_cons_zero, List.set_cons_succ, List.take_succ_cons, List.take_zero, List.nil_append, List.cons_append, List.drop_succ_cons, List.drop_zero, List.length_cons, List.length_nil, Nat.reduceAdd, Nat.zero_add] at hE4)
        | ((with_reducible (show Go.wpList _ _ _ (Go.Oper.mk _ (.alloc 108) _ _ _ _ :: _) _ _)); refine wpl_alloc hE4 rfl rfl (by simp [go_sem]; rfl) ?_; clear hE4; intro b5 w hE5; simp only [Act.eval, Act.put, List.setIfInBounds_toArray, List.set_cons_zero, List.set_cons_succ, getD_lit, List.getD_cons_succ, List.getD_cons_zero, Value.cells] at hE5)
        | ((with_reducible (show Go.wpList _ _ _ (Go.Oper.mk _ (.store 108 (.tmp 5) _) _ _ _ _ :: _) _ _)); refine wpl_storeW hE5 0 rfl rfl rfl (xs := rcs ⟨r, 0⟩) rfl rfl Try.sizeOf108 rfl (by simp [rcs, Value.oneCell']) rfl ?_; clear hE5; intro w hE6; simp only [List.set_cons_zero, List.set_cons_succ] at hE6)
        | ((with_reducible (show Go.wpList _ _ _ (Go.Oper.mk _ (.load 108 (.tmp 5)) _ _ _ _ :: _) _ _)); refine wpl_loadW hE6 0 rfl rfl rfl rfl Try.isAgg108 Try.sizeOf108 (xs := rcs ⟨r, 0⟩) rfl ?_)
        | (go_at_call 61; have H := hT2 hE6; refine H.mono ?_; clear H hE6; rintro e w2 ⟨v, rfl, rfl, hE7⟩)
        | ((with_reducible (show Go.wpList _ _ _ (Go.Oper.mk _ (.store 108 (.tmp 5) _) _ _ _ _ :: _) _ _)); refine wpl_storeW hE7 0 rfl rfl rfl (xs := rcs s2) rfl rfl Try.sizeOf108 rfl (by simp [rcs, Value.oneCell']) rfl ?_; clear hE7; intro w hE; simp only [List.set_cons_zero, List.set_cons_succ] at hE))
      go_loop [7] (fun i => i = .int .u64 0) (fun _ => 0)
      case atStart => exact rfl
      case round =>
        obtain rfl := hrel
        by_cases h0n : 0 < n
        all_goals
          go_wp2_with (first
            | go_skip
            | ((with_reducible (show Go.wpList _ _ _ (Go.Oper.mk _ (.load 5 _) _ _ _ _ :: _) _ _)); refine wpl_load1 hE 1 rfl rfl rfl rfl (by simp [go_sem]) rfl ?_)
            | ((with_reducible (show Go.wpList _ _ _ (Go.Oper.mk _ (.load 45 _) _ _ _ _ :: _) _ _)); refine wpl_loadW hE 1 rfl rfl rfl rfl Try.isAgg45 Try.sizeOf45 (xs := [.int .u8 1, .string ⟨r.toArray⟩, .slice none 0 0]) rfl ?_)
            | (go_at_call 64; have H := rMay_any (u := 1) (data := r) (ks := ([] : List Kid)) Hgk.out (by have := Hlk.out; omega) hE (fun _ _ => reads_nil 0 0 rfl _); rw [Hm.out] at H; refine H.mono ?_; clear H hE; rintro e w6 ⟨v, rfl, rfl, hE6⟩)
            | ((with_reducible (show Go.wpList _ _ _ (Go.Oper.mk _ (.load 45 _) _ _ _ _ :: _) _ _)); refine wpl_loadW hE6 1 rfl rfl rfl rfl Try.isAgg45 Try.sizeOf45 (xs := [.int .u8 1, .string ⟨r.toArray⟩, .slice none 0 0]) rfl ?_)
            | (go_at_call 65; have H := rPut_yes (u := 1) (data := r) (ks := ([] : List Kid)) Hgk.out Hm.out hE6 (fun _ _ => reads_nil 0 0 rfl _); rw [Hpp.out] at H; refine H.mono ?_; clear H hE6; rintro e w6 ⟨v, rfl, rfl, hE7⟩)
            | ((with_reducible (show Go.wpList _ _ _ (Go.Oper.mk _ (.load 45 _) _ _ _ _ :: _) _ _)); refine wpl_loadW hE7 1 rfl rfl rfl rfl Try.isAgg45 Try.sizeOf45 (xs := [.int .u8 1, .string ⟨r.toArray⟩, .slice none 0 0]) rfl ?_)
            | (refine wpl_storeW hE7 2 rfl rfl rfl (xs := [.int .u8 1, .string ⟨r.toArray⟩, .slice none 0 0]) rfl rfl Try.sizeOf45 rfl (by simp [Value.oneCell']) rfl ?_; clear hE7; intro w hE8; simp only [List.set_cons_zero, List.set_cons_succ] at hE8))
          refine bodyPost_ret (results_cell2 rfl hE8 2 rfl rfl Try.isAgg45 Try.sizeOf45 rfl rfl) rfl ?_
          exact ⟨_, rfl, none, 0, by rw [R1.out, R2.out, P1.out]; rfl, by rw [R1.out, P1.out]; exact (hE8.tail.tail.tail).nil _ _⟩
end Go.Proofs.Ytohdljcpaogokaa
