/-
  The stage's theorem of the chunks: the walk of its function, at any two chunks and any bytes.
-/
import Derived.Test.YtohdljcpaogokaaCki
import Derived.Deep.RegionHeld3
namespace Go.Proofs.Ytohdljcpaogokaa
open Go.RowKit Go.SL

theorem takeC_put' {c : Chunk} (hg : c.good) (h : mayC c = true) : resC (putC c) = c ∧ errC (putC c) = 0 := by
  unfold resC errC
  rw [takeC_put hg h]
  exact ⟨rfl, rfl⟩
theorem putC_same {a b : Chunk} (ha : a.good) (hb : b.good) (h1 : mayC a = true) (h2 : mayC b = true) : (putC a == putC b) = sameC a b := by
  rw [Bool.eq_iff_iff, sameC_iff, beq_iff_eq]
  exact ⟨putC_inj ha hb h1 h2, fun e => by rw [e]⟩

/-- where a way through the law stands: what is known of both arguments -/
theorem str_row {l : List HProp} {w : World} (hE : Ent l w) (i : Nat) {ao : Option Addr} {c : Nat} {bs : List UInt8} (hi : l[i]? = some (rowB ao c bs)) :
    (convert 42 9 (.slice ao bs.length c)).run Try.prog w = .ok (.string ⟨bs.toArray⟩) w :=
  bytesToString_reads Try.underlying42 Try.underlying5 Try.underlying9 (reads_row hE i hi) rfl

set_option maxRecDepth 100000 in
set_option maxHeartbeats 4000000 in
theorem back_g1 {ua ub : UInt8} {da db bs : List UInt8} {ka kb : List Kid} {aa ab ai : Option Addr} {ca cb ci : Nat} (ga : ∀ k ∈ ka, k.good) (gb : ∀ k ∈ kb, k.good) {l : List HProp} {w : World} (hE : Ent l w)
    (ra : Knows l (reads (.slice aa ka.length ca) ka.length (kidCells ka))) (rb : Knows l (reads (.slice ab kb.length cb) kb.length (kidCells kb))) (rs : Knows l (reads (.slice ai bs.length ci) bs.length (bvals bs))) (GA : RowKit.Hid (greatC ⟨ua, da, ka⟩ = true)) :
    Calls Try.prog 6 #[.agg #[.int .u8 ua.toNat, .string ⟨da.toArray⟩, .slice aa ka.length ca], .agg #[.int .u8 ub.toNat, .string ⟨db.toArray⟩, .slice ab kb.length cb], .slice ai bs.length ci] w (Ret fun v w' => v = .bool true ∧ Ent l w') := by
  have Ga := SL.hid ga
  have Gb := SL.hid gb
  clear ga gb
  go_enter Try.func6, Try.ntmps6
  go_wp2_with (first
    | go_skip
    | ((with_reducible (show Go.wpList _ _ _ (Go.Oper.mk _ (.box _ (.tmp 0)) _ _ _ _ :: _) _ _)); refine wpl_box hE rfl rfl rfl ?_; clear hE; intro b3 w hE1; simp only [Act.eval, Act.put, List.setIfInBounds_toArray, List.set_cons_zero, List.set_cons_succ, getD_lit, List.getD_cons_succ, List.getD_cons_zero, Value.cells] at hE1)
    | ((with_reducible (show Go.wpList _ _ _ (Go.Oper.mk _ (.box _ (.tmp 1)) _ _ _ _ :: _) _ _)); refine wpl_box hE1 rfl rfl rfl ?_; clear hE1; intro b4 w hE2; simp only [Act.eval, Act.put, List.setIfInBounds_toArray, List.set_cons_zero, List.set_cons_succ, getD_lit, List.getD_cons_succ, List.getD_cons_zero, Value.cells] at hE2)
    | ((with_reducible (show Go.wpList _ _ _ (Go.Oper.mk _ (.load _ (.tmp 3)) _ _ _ _ :: _) _ _)); refine wpl_loadW hE2 1 rfl rfl rfl rfl Try.isAgg45 Try.sizeOf45 (xs := [.int .u8 ua.toNat, .string ⟨da.toArray⟩, .slice aa ka.length ca]) rfl ?_)
    | (go_at_call 22; have H := great_any (u := ua) (data := da) Ga.out hE2 ra.cons.cons; rw [GA.out] at H; refine H.mono ?_; clear H hE2; rintro e w2 ⟨v, rfl, rfl, hE3⟩)
    | (go_at_call 17; have H := wakes12_any hE3; refine H.mono ?_; clear H hE3; rintro e w2 ⟨v, rfl, rfl, hZ⟩))
  go_ret
  exact ⟨_, rfl, rfl, hZ.tail.tail⟩

set_option maxRecDepth 100000 in
set_option maxHeartbeats 4000000 in
theorem back_g2 {ua ub : UInt8} {da db bs : List UInt8} {ka kb : List Kid} {aa ab ai : Option Addr} {ca cb ci : Nat} (ga : ∀ k ∈ ka, k.good) (gb : ∀ k ∈ kb, k.good) {l : List HProp} {w : World} (hE : Ent l w)
    (ra : Knows l (reads (.slice aa ka.length ca) ka.length (kidCells ka))) (rb : Knows l (reads (.slice ab kb.length cb) kb.length (kidCells kb))) (rs : Knows l (reads (.slice ai bs.length ci) bs.length (bvals bs))) (GA : RowKit.Hid (greatC ⟨ua, da, ka⟩ = false)) (GB : RowKit.Hid (greatC ⟨ub, db, kb⟩ = true)) :
    Calls Try.prog 6 #[.agg #[.int .u8 ua.toNat, .string ⟨da.toArray⟩, .slice aa ka.length ca], .agg #[.int .u8 ub.toNat, .string ⟨db.toArray⟩, .slice ab kb.length cb], .slice ai bs.length ci] w (Ret fun v w' => v = .bool true ∧ Ent l w') := by
  have Ga := SL.hid ga
  have Gb := SL.hid gb
  clear ga gb
  go_enter Try.func6, Try.ntmps6
  go_wp2_with (first
    | go_skip
    | ((with_reducible (show Go.wpList _ _ _ (Go.Oper.mk _ (.box _ (.tmp 0)) _ _ _ _ :: _) _ _)); refine wpl_box hE rfl rfl rfl ?_; clear hE; intro b3 w hE1; simp only [Act.eval, Act.put, List.setIfInBounds_toArray, List.set_cons_zero, List.set_cons_succ, getD_lit, List.getD_cons_succ, List.getD_cons_zero, Value.cells] at hE1)
    | ((with_reducible (show Go.wpList _ _ _ (Go.Oper.mk _ (.box _ (.tmp 1)) _ _ _ _ :: _) _ _)); refine wpl_box hE1 rfl rfl rfl ?_; clear hE1; intro b4 w hE2; simp only [Act.eval, Act.put, List.setIfInBounds_toArray, List.set_cons_zero, List.set_cons_succ, getD_lit, List.getD_cons_succ, List.getD_cons_zero, Value.cells] at hE2)
    | ((with_reducible (show Go.wpList _ _ _ (Go.Oper.mk _ (.load _ (.tmp 3)) _ _ _ _ :: _) _ _)); refine wpl_loadW hE2 1 rfl rfl rfl rfl Try.isAgg45 Try.sizeOf45 (xs := [.int .u8 ua.toNat, .string ⟨da.toArray⟩, .slice aa ka.length ca]) rfl ?_)
    | (go_at_call 22; have H := great_any (u := ua) (data := da) Ga.out hE2 ra.cons.cons; rw [GA.out] at H; refine H.mono ?_; clear H hE2; rintro e w2 ⟨v, rfl, rfl, hE3⟩)
    | ((with_reducible (show Go.wpList _ _ _ (Go.Oper.mk _ (.load _ (.tmp 4)) _ _ _ _ :: _) _ _)); refine wpl_loadW hE3 0 rfl rfl rfl rfl Try.isAgg45 Try.sizeOf45 (xs := [.int .u8 ub.toNat, .string ⟨db.toArray⟩, .slice ab kb.length cb]) rfl ?_)
    | (go_at_call 22; have H := great_any (u := ub) (data := db) Gb.out hE3 rb.cons.cons; rw [GB.out] at H; refine H.mono ?_; clear H hE3; rintro e w2 ⟨v, rfl, rfl, hE4⟩)
    | (go_at_call 17; have H := wakes12_any hE4; refine H.mono ?_; clear H hE4; rintro e w2 ⟨v, rfl, rfl, hZ⟩))
  go_ret
  exact ⟨_, rfl, rfl, hZ.tail.tail⟩

set_option maxRecDepth 100000 in
set_option maxHeartbeats 4000000 in
theorem back_g3 {ua ub : UInt8} {da db bs : List UInt8} {ka kb : List Kid} {aa ab ai : Option Addr} {ca cb ci : Nat} (ga : ∀ k ∈ ka, k.good) (gb : ∀ k ∈ kb, k.good) {l : List HProp} {w : World} (hE : Ent l w)
    (ra : Knows l (reads (.slice aa ka.length ca) ka.length (kidCells ka))) (rb : Knows l (reads (.slice ab kb.length cb) kb.length (kidCells kb))) (rs : Knows l (reads (.slice ai bs.length ci) bs.length (bvals bs))) (GA : RowKit.Hid (greatC ⟨ua, da, ka⟩ = false)) (GB : RowKit.Hid (greatC ⟨ub, db, kb⟩ = false)) (h6 : decide ((600 : Int) < (bs.length : Int)) = true) :
    Calls Try.prog 6 #[.agg #[.int .u8 ua.toNat, .string ⟨da.toArray⟩, .slice aa ka.length ca], .agg #[.int .u8 ub.toNat, .string ⟨db.toArray⟩, .slice ab kb.length cb], .slice ai bs.length ci] w (Ret fun v w' => v = .bool true ∧ Ent l w') := by
  have Ga := SL.hid ga
  have Gb := SL.hid gb
  clear ga gb
  go_enter Try.func6, Try.ntmps6
  go_wp2_with (first
    | go_skip
    | ((with_reducible (show Go.wpList _ _ _ (Go.Oper.mk _ (.box _ (.tmp 0)) _ _ _ _ :: _) _ _)); refine wpl_box hE rfl rfl rfl ?_; clear hE; intro b3 w hE1; simp only [Act.eval, Act.put, List.setIfInBounds_toArray, List.set_cons_zero, List.set_cons_succ, getD_lit, List.getD_cons_succ, List.getD_cons_zero, Value.cells] at hE1)
    | ((with_reducible (show Go.wpList _ _ _ (Go.Oper.mk _ (.box _ (.tmp 1)) _ _ _ _ :: _) _ _)); refine wpl_box hE1 rfl rfl rfl ?_; clear hE1; intro b4 w hE2; simp only [Act.eval, Act.put, List.setIfInBounds_toArray, List.set_cons_zero, List.set_cons_succ, getD_lit, List.getD_cons_succ, List.getD_cons_zero, Value.cells] at hE2)
    | ((with_reducible (show Go.wpList _ _ _ (Go.Oper.mk _ (.load _ (.tmp 3)) _ _ _ _ :: _) _ _)); refine wpl_loadW hE2 1 rfl rfl rfl rfl Try.isAgg45 Try.sizeOf45 (xs := [.int .u8 ua.toNat, .string ⟨da.toArray⟩, .slice aa ka.length ca]) rfl ?_)
    | (go_at_call 22; have H := great_any (u := ua) (data := da) Ga.out hE2 ra.cons.cons; rw [GA.out] at H; refine H.mono ?_; clear H hE2; rintro e w2 ⟨v, rfl, rfl, hE3⟩)
    | ((with_reducible (show Go.wpList _ _ _ (Go.Oper.mk _ (.load _ (.tmp 4)) _ _ _ _ :: _) _ _)); refine wpl_loadW hE3 0 rfl rfl rfl rfl Try.isAgg45 Try.sizeOf45 (xs := [.int .u8 ub.toNat, .string ⟨db.toArray⟩, .slice ab kb.length cb]) rfl ?_)
    | (go_at_call 22; have H := great_any (u := ub) (data := db) Gb.out hE3 rb.cons.cons; rw [GB.out] at H; refine H.mono ?_; clear H hE3; rintro e w2 ⟨v, rfl, rfl, hE4⟩)
    | (go_at_call 17; have H := wakes12_any hE4; refine H.mono ?_; clear H hE4; rintro e w2 ⟨v, rfl, rfl, hZ⟩))
  go_ret
  exact ⟨_, rfl, rfl, hZ.tail.tail⟩
end Go.Proofs.Ytohdljcpaogokaa
