/-
  The stage's theorem of the packer: the walk of its function, at any things and any bytes behind them.
-/
import Derived.Test.YtpchnmcofkffiaaLa8
import Derived.Test.YtpchnmcofkffiaaSle
namespace Go.Proofs.Ytpchnmcofkffiaa
open Go.RowKit Go.SL

theorem putsB_cons (x : Thing) (xs : List Thing) (h : thingOk x = true) : putsB (x :: xs) = thingB x ++ putsB xs := by
  unfold putsB
  rw [List.filter_cons, if_pos h, List.flatMap_cons]

theorem putsE_ok {xs : List Thing} (h : xs.all thingOk = true) : putsE xs = 0 := by unfold putsE; rw [if_pos h]

theorem putsB_drop {xs : List Thing} (hall : xs.all thingOk = true) {k : Nat} (hlt : k < xs.length) : putsB (xs.drop k) = thingB xs[k] ++ putsB (xs.drop (k + 1)) := by
  rw [List.drop_eq_getElem_cons hlt]
  exact putsB_cons _ _ (List.all_eq_true.1 hall _ (List.getElem_mem hlt))

theorem putsB_take {xs : List Thing} (hall : xs.all thingOk = true) {k : Nat} (hlt : k < xs.length) : putsB (xs.take (k + 1)) = putsB (xs.take k) ++ thingB xs[k] := by
  rw [List.take_succ_eq_append_getElem hlt, putsB_snoc, List.all_eq_true.1 hall _ (List.getElem_mem hlt)]
  rfl

theorem Of_app {a b : List UInt8} {l : List HProp} {w : World} {ao : Option Addr} {c : Nat} (hE : Ent (rowB ao c (a ++ b) :: l) w) (hb : (a ++ b).length ≤ 1099511627776) :
    Calls Try.prog 28 #[.slice ao (a.length + b.length) c] w (Ret fun v w' => ∃ o, v = .pointer (some ⟨o, 0, none⟩) ∧ Ent (opener o (a ++ b) 0 :: rowB ao c (a ++ b) :: l) w') := by
  have h := Of_any (bs := a ++ b) hE (fun w h => reads_row h 0 rfl) hb
  rw [List.length_append] at h
  exact h

def BackRel (xs : List Thing) (behind : List UInt8) (m l : List HProp) (o p : Nat) (i : Value) (wr : World) : Prop :=
  ∃ k : Nat, k ≤ xs.length ∧ i = .int .i64 k ∧ Ent (opener o (putsB (xs.drop k) ++ behind) 0 :: packer p (putsB (xs.take k)) 0 :: (m ++ l)) wr

theorem BackRel.step {xs : List Thing} {behind : List UInt8} {m l : List HProp} {o p k : Nat} (hall : xs.all thingOk = true) (hlt : k < xs.length) {w : World}
    (hE : Ent (opener o (putsB (xs.drop (k + 1)) ++ behind) 0 :: packer p (putsB (xs.take k) ++ thingB xs[k]) 0 :: (m ++ l)) w) : BackRel xs behind m l o p (.int .i64 ((k : Int) + 1)) w := by
  refine ⟨k + 1, hlt, by simp, ?_⟩
  rw [putsB_take hall hlt]
  exact hE

theorem puts_ok {xs : List Thing} (hg : greatV xs = false) (hall : xs.all thingOk = true) {l : List HProp} {w : World} (hE : Ent l w) {ao : Option Addr} {c : Nat} (hk : Knows l (reads (.slice ao xs.length c) xs.length (thingCells xs))) :
    Calls Try.prog 15 #[.slice ao xs.length c] w (Ret fun v w' => ∃ p, v = .pointer (some ⟨p, 0, none⟩) ∧ Ent (packer p (putsB xs) 0 :: l) w') := by
  have h := puts_things hg hE hk
  rw [putsE_ok hall] at h
  exact h
theorem puts_bad {xs : List Thing} (hg : greatV xs = false) (hall : xs.all thingOk = false) {l : List HProp} {w : World} (hE : Ent l w) {ao : Option Addr} {c : Nat} (hk : Knows l (reads (.slice ao xs.length c) xs.length (thingCells xs))) :
    Calls Try.prog 15 #[.slice ao xs.length c] w (Ret fun v w' => ∃ p, v = .pointer (some ⟨p, 0, none⟩) ∧ Ent (packer p (putsB xs) 6 :: l) w') := by
  have h := puts_things hg hE hk
  have e : putsE xs = 6 := by unfold putsE; rw [hall]; rfl
  rw [e] at h
  exact h

theorem hash_same (ys : List UInt8) (w : World) : (Op.equalIn 10000 31 (.agg (bvals (hash32 ys)).toArray) (.agg (bvals (hash32 ys)).toArray)).run Try.prog w = .ok true w := by
  obtain ⟨i, hi⟩ := Option.isSome_iff_exists.1 isSomeB
  have h := run_equalA (P := Try.prog) (w := w) 9998 Try.underlying31 hi cellsB Try.underlying5 (hash32 ys) (hash32 ys) (hash32_length ys) (hash32_length ys)
  rw [beq_self_eq_true] at h
  exact h

attribute [-go_sem] Instr.loadAt in
set_option maxRecDepth 100000 in
set_option maxHeartbeats 4000000 in
theorem PackBack_any {xs : List Thing} (hgood : ∀ x ∈ xs, x.good) {behind : List UInt8} {l : List HProp} {w : World} (hE : Ent l w) {ao ab : Option Addr} {c cb : Nat} (hk : Knows l (reads (.slice ao xs.length c) xs.length (thingCells xs)))
    (hkb : Knows l (reads (.slice ab behind.length cb) behind.length (bvals behind))) :
    Calls Try.prog 5 #[.slice ao xs.length c, .slice ab behind.length cb] w (Ret fun v w' => v = .bool true ∧ Ent l w') := by
  cases hg : greatV xs with
  | true =>
    go_enter Try.func5, Try.ntmps5
    go_wp2_with (first
      | go_skip
      | (go_at_call 11; refine (great_at hg (hk _ hE)).mono ?_; rintro e w2 ⟨rfl, rfl⟩)
      | (go_at_call 12; have H := wakes1_any hE; refine H.mono ?_; clear H; rintro e w2 ⟨v, rfl, rfl, hE⟩))
    go_ret
    exact ⟨_, rfl, rfl, hE⟩
  | false =>
    obtain ⟨h60, h400⟩ := great_false hg
    have H400 := SL.hid h400
    have Hg := SL.hid hg
    have Hgood := SL.hid hgood
    clear hg h400 hgood
    cases hbl : decide ((2000 : Int) < (behind.length : Int)) with
    | true =>
      go_enter Try.func5, Try.ntmps5
      go_wp2_with (first
        | go_skip
        | (go_at_call 11; refine (great_at Hg.out (hk _ hE)).mono ?_; rintro e w2 ⟨rfl, rfl⟩)
        | (go_at_call 12; have H := wakes1_any hE; refine H.mono ?_; clear H; rintro e w2 ⟨v, rfl, rfl, hE⟩))
      go_ret
      exact ⟨_, rfl, rfl, hE⟩
    | false =>
      have h2000 : behind.length ≤ 2000 := by have := of_decide_eq_false hbl; omega
      cases hok : xs.all thingOk with
      | false =>
        have Hok := SL.hid hok
        clear hok
        go_enter Try.func5, Try.ntmps5
        go_wp2_with (first
          | go_skip
          | (go_at_call 11; refine (great_at Hg.out (hk _ hE)).mono ?_; rintro e w2 ⟨rfl, rfl⟩)
          | (go_at_call 15; have H := puts_bad Hg.out Hok.out hE hk; refine H.mono ?_; clear H; rintro e w2 ⟨v, rfl, p, rfl, hE⟩)
          | (go_at_call 16; have H := Bytes_err (by decide) hE; refine H.mono ?_; clear H; rintro e w2 ⟨v, rfl, rfl, hE⟩)
          | (go_at_call 12; have H := wakes1_any hE; refine H.mono ?_; clear H; rintro e w2 ⟨v, rfl, rfl, hE⟩))
        go_ret
        exact ⟨_, rfl, rfl, hE.tail⟩
      | true =>
        have Hok := SL.hid hok
        clear hok
        have hb : (putsB xs).length ≤ 100000 := by
          have := putsB_length xs H400.out
          omega
        go_enter Try.func5, Try.ntmps5
        go_wp2_with (first
          | go_skip
          | (go_at_call 11; refine (great_at Hg.out (hk _ hE)).mono ?_; rintro e w2 ⟨rfl, rfl⟩)
          | (go_at_call 15; have H := puts_ok Hg.out Hok.out hE hk; refine H.mono ?_; clear H; rintro e w2 ⟨v, rfl, p0, rfl, hE⟩)
          | (go_at_call 16; have H := Bytes_ok hE (by omega); refine H.mono ?_; clear H; rintro e w2 ⟨v, rfl, aob, cb2, rfl, hE⟩)
          | (at_builtin; refine wpl_appendB (hE.nil 5 1) 0 (bs := []) rfl rfl rfl rfl rfl (ys := putsB xs) (reads_row (hE.nil 5 1) 1 rfl) (by simp; omega) ?_; intro ao1 c1 w1 hE1; clear hE; simp only [List.nil_append, List.set_cons_zero] at hE1)
          | (at_builtin; refine wpl_appendB hE1 0 (bs := putsB xs) rfl rfl rfl rfl rfl (ys := behind) (hkb _ hE1.tail.tail.tail) (by omega) ?_; intro ao1 c1 w1 hE; clear hE1; simp only [List.set_cons_zero] at hE)
          | (go_at_call 28; have H := Of_app hE (by simp; omega); refine H.mono ?_; clear H; rintro e w2 ⟨v, rfl, o, rfl, hE⟩)
          | (go_at_call 29; have H := New_any hE; refine H.mono ?_; clear H; rintro e w2 ⟨v, rfl, p, rfl, hE⟩))
        go_loopw [9] (fun i wr => BackRel xs behind [rowB aob cb2 (putsB xs)] l o p i wr) (fun i _ => xs.length - (intOf i).toNat)
        case atStart => exact ⟨0, Nat.zero_le _, rfl, ((hE.front 1 rfl).erase 2).erase 3⟩
        case round =>
          obtain ⟨k, hkl, rfl, hE⟩ := hrel
          by_cases hlt : k < xs.length
          · obtain ⟨b, off, rfl, hc⟩ := reads_form (hk _ hE.tail.tail.tail) (by omega) (by rw [thingCells, flatMap_len _ 4 Thing.cells_len]; omega)
            have hcx : ∀ j v, xs[k].cells[j]? = some v → wr.cell? ((⟨b, off + k * 4, none⟩ : Addr).add j) = some v := by
              intro j v hv
              rw [Addr.add_lit, Nat.add_assoc]
              exact hc _ _ (thing_at hlt j v hv)
            clear hc
            have hb1 : (putsB (xs.take k)).length ≤ 100000 := by
              have := putsB_length (xs.take k) (fun x hx => H400.out x (List.mem_of_mem_take hx))
              rw [List.length_take] at this
              omega
            have hb2 : (putsB (xs.drop (k + 1))).length ≤ 100000 := by
              have := putsB_length (xs.drop (k + 1)) (fun x hx => H400.out x (List.mem_of_mem_drop hx))
              rw [List.length_drop] at this
              omega
            have ht : (xs[k]).text.length ≤ 400 := H400.out xs[k] (List.getElem_mem hlt)
            have hgd := SL.hid (Hgood.out xs[k] (List.getElem_mem hlt))
            have hokx : thingOk xs[k] = true := List.all_eq_true.1 Hok.out _ (List.getElem_mem hlt)
            have hstep := fun w => @BackRel.step xs behind [rowB aob cb2 (putsB xs)] l o p k Hok.out hlt w
            rw [putsB_drop Hok.out hlt, List.append_assoc] at hE
            generalize hx : xs[k] = x at *
            have Hx := SL.hid hx
            clear hx
            have Hcx := SL.hid hcx
            clear hcx
            unfold Thing.cells at Hcx
            generalize putsB (xs.take k) = done at *
            generalize putsB (xs.drop (k + 1)) = left at *
            cases h0 : ((x.what.toNat : Int) == 0) with
            | true =>
              have e0 : (x.what == 0) = true := what_eq x.what 0 h0
              have eo : thingOk x = numOk x.width x.num := by unfold thingOk; rw [if_pos e0]
              have eb : thingB x = be x.width.toNat x.num := by unfold thingB; rw [if_pos e0]
              rw [eb] at hstep hE
              rw [eo] at hokx
              have Hnum := SL.hid hokx
              have e1 : pbs (numOk x.width x.num) done (be x.width.toNat x.num) = done ++ be x.width.toNat x.num := by rw [hokx]; rfl
              have e2 : perr (numOk x.width x.num) 0 = 0 := by rw [hokx]; rfl
              have E1 := SL.hid e1
              have E2 := SL.hid e2
              clear eo eb e0 hokx e1 e2
              go_wp2_with (first | (refine wpl_loadC rfl rfl rfl Try.isAgg27 Try.sizeOf27 [.int .u8 x.what.toNat, .int .i64 x.width, .int .u64 x.num, .string ⟨x.text.toArray⟩] rfl Hcx.out ?_) | (refine wpl_loadW hE 0 rfl rfl rfl rfl Try.isAgg27 Try.sizeOf27 rfl ?_) | (refine wpl_storeW hE 0 rfl rfl rfl rfl rfl Try.sizeOf27 rfl (by simp [Value.oneCell']) rfl ?_; clear hE; intro w hE) | (go_at_call 21; have H := oTake_num Hnum.out hgd.out.1 (hE.front 1 rfl) (by simp; omega); refine H.mono ?_; clear H; rintro e w2 ⟨v, rfl, rfl, hE⟩; replace hE := hE.front 1 rfl) | (go_at_call 17; have H := Put_any p x.num x.width (hE.front 2 rfl) (by omega); refine H.mono ?_; clear H; rintro e w2 ⟨v, rfl, rfl, hE⟩; replace hE := hE.front 1 rfl) | (go_at_call 23; have H := oText_bytes (hE.front 1 rfl) (by simp; omega); refine H.mono ?_; clear H; rintro e w2 ⟨v, rfl, rfl, hE⟩; replace hE := hE.front 1 rfl) | (go_at_call 19; have H := Text_any p x.text (hE.front 2 rfl) (by omega); refine H.mono ?_; clear H; rintro e w2 ⟨v, rfl, rfl, hE⟩; replace hE := hE.front 1 rfl) | (go_at_call 24; have H := oName_bytes Hnm.out (hE.front 1 rfl) (by simp; omega); refine H.mono ?_; clear H; rintro e w2 ⟨v, rfl, rfl, hE⟩; replace hE := hE.front 1 rfl) | (go_at_call 20; have H := Name_ok p x.text Hnm.out (hE.front 2 rfl) (by omega); refine H.mono ?_; clear H; rintro e w2 ⟨v, rfl, rfl, hE⟩; replace hE := hE.front 1 rfl) | (refine wpl_alloc hE rfl rfl (by simp [go_sem]; rfl) ?_; clear hE; intro b w hE; simp only [Act.eval, Act.put, List.setIfInBounds_toArray, List.set_cons_zero, List.set_cons_succ, getD_lit, List.getD_cons_succ, List.getD_cons_zero, Value.cells] at hE) | (first | (refine wpl_load1 hE 0 rfl rfl rfl rfl (by simp [go_sem]) rfl ?_) | (refine wpl_load1 hE 1 rfl rfl rfl rfl (by simp [go_sem]) rfl ?_) | (refine wpl_load1 hE 2 rfl rfl rfl rfl (by simp [go_sem]) rfl ?_) | (refine wpl_load1 hE 3 rfl rfl rfl rfl (by simp [go_sem]) rfl ?_) | (refine wpl_load1 hE 4 rfl rfl rfl rfl (by simp [go_sem]) rfl ?_) | (refine wpl_load1 hE 5 rfl rfl rfl rfl (by simp [go_sem]) rfl ?_)))
              go_roundw
              case rel =>
                rw [E1.out, E2.out] at hE
                exact hstep _ (((hE.tail).front 1 rfl))
              case measure => simp [intOf]; omega
            | false =>
              have e0 : (x.what == 0) = false := what_ne x.what 0 h0
              cases h1 : ((x.what.toNat : Int) == 1) with
              | true =>
                have e1 : (x.what == 1) = true := what_eq x.what 1 h1
                have eb : thingB x = hash32 x.text := by unfold thingB; rw [e0, e1]; rfl
                rw [eb] at hstep hE
                clear eb e0 e1 hokx
                have hl32 := hash32_length x.text
                have H32 := SL.hid (show (bvals (hash32 x.text)).length = 32 by rw [bvals_length, hash32_length])
                go_wp2_with (first
                  | (refine wpl_loadW hE 1 rfl rfl rfl rfl Try.isAgg31 Try.sizeOf31 H32.out ?_)
                  | (refine wpl_storeW hE 0 rfl rfl rfl rfl rfl Try.sizeOf31 H32.out (bvals_one _) rfl ?_; clear hE; intro w hE)
                  | (go_at_call 22; have H := oHash_bytes (hash32_length x.text) (hE.front 1 rfl); refine H.mono ?_; clear H; rintro e w2 ⟨v, rfl, rfl, hE⟩; replace hE := hE.front 1 rfl)
                  | (refine wpl_loadW hE 0 rfl rfl rfl rfl Try.isAgg31 Try.sizeOf31 H32.out ?_)
                  | (go_at_call 18; have H := Hash_any p (hash32 x.text) (hash32_length _) (hE.front 3 rfl) (by omega); refine H.mono ?_; clear H; rintro e w2 ⟨v, rfl, rfl, hE⟩)
                  | (refine wpl_loadC rfl rfl rfl Try.isAgg27 Try.sizeOf27 [.int .u8 x.what.toNat, .int .i64 x.width, .int .u64 x.num, .string ⟨x.text.toArray⟩] rfl Hcx.out ?_) | (refine wpl_loadW hE 0 rfl rfl rfl rfl Try.isAgg27 Try.sizeOf27 rfl ?_) | (refine wpl_storeW hE 0 rfl rfl rfl rfl rfl Try.sizeOf27 rfl (by simp [Value.oneCell']) rfl ?_; clear hE; intro w hE) | (go_at_call 21; have H := oTake_num Hnum.out hgd.out.1 (hE.front 1 rfl) (by simp; omega); refine H.mono ?_; clear H; rintro e w2 ⟨v, rfl, rfl, hE⟩; replace hE := hE.front 1 rfl) | (go_at_call 17; have H := Put_any p x.num x.width (hE.front 2 rfl) (by omega); refine H.mono ?_; clear H; rintro e w2 ⟨v, rfl, rfl, hE⟩; replace hE := hE.front 1 rfl) | (go_at_call 23; have H := oText_bytes (hE.front 1 rfl) (by simp; omega); refine H.mono ?_; clear H; rintro e w2 ⟨v, rfl, rfl, hE⟩; replace hE := hE.front 1 rfl) | (go_at_call 19; have H := Text_any p x.text (hE.front 2 rfl) (by omega); refine H.mono ?_; clear H; rintro e w2 ⟨v, rfl, rfl, hE⟩; replace hE := hE.front 1 rfl) | (go_at_call 24; have H := oName_bytes Hnm.out (hE.front 1 rfl) (by simp; omega); refine H.mono ?_; clear H; rintro e w2 ⟨v, rfl, rfl, hE⟩; replace hE := hE.front 1 rfl) | (go_at_call 20; have H := Name_ok p x.text Hnm.out (hE.front 2 rfl) (by omega); refine H.mono ?_; clear H; rintro e w2 ⟨v, rfl, rfl, hE⟩; replace hE := hE.front 1 rfl) | (refine wpl_alloc hE rfl rfl (by simp [go_sem]; rfl) ?_; clear hE; intro b w hE; simp only [Act.eval, Act.put, List.setIfInBounds_toArray, List.set_cons_zero, List.set_cons_succ, getD_lit, List.getD_cons_succ, List.getD_cons_zero, Value.cells] at hE) | (first | (refine wpl_load1 hE 0 rfl rfl rfl rfl (by simp [go_sem]) rfl ?_) | (refine wpl_load1 hE 1 rfl rfl rfl rfl (by simp [go_sem]) rfl ?_) | (refine wpl_load1 hE 2 rfl rfl rfl rfl (by simp [go_sem]) rfl ?_) | (refine wpl_load1 hE 3 rfl rfl rfl rfl (by simp [go_sem]) rfl ?_) | (refine wpl_load1 hE 4 rfl rfl rfl rfl (by simp [go_sem]) rfl ?_) | (refine wpl_load1 hE 5 rfl rfl rfl rfl (by simp [go_sem]) rfl ?_)))
                replace hE := hE.drew
                have hEq : ∀ w : World, (Op.equalIn 10000 31 (.agg (bvals (hash32 x.text)).toArray) (.agg (bvals (hash32 x.text)).toArray)).run Try.prog w = .ok true w := fun w => hash_same x.text w
                have hL1 := run_loadA (P := Try.prog) hE 1 rfl Try.isAgg31 Try.sizeOf31 (off := 0) H32.out (fun j _ => by simp)
                have hL2 := run_loadA (P := Try.prog) hE 2 rfl Try.isAgg27 Try.sizeOf27 (off := 0) (vs := [.int .u8 x.what.toNat, .int .i64 x.width, .int .u64 x.num, .string ⟨x.text.toArray⟩]) rfl (fun j _ => by simp)
                go_region_law (first
                  | (go_simp; (refine (Thing_hash x hE).mono ?_); (rintro e w2 ⟨v, rfl, rfl, hE⟩); have hL3 := run_loadA (P := Try.prog) hE 1 rfl Try.isAgg31 Try.sizeOf31 (off := 0) H32.out (fun j _ => by simp)))
                all_goals
                  go_wp2
                  go_roundw
                  case rel => exact hstep _ ((((hE.front 3 rfl).erase 2).erase 2))
                  case measure => simp [intOf]; omega
              | false =>
                have e1 : (x.what == 1) = false := what_ne x.what 1 h1
                cases h2 : ((x.what.toNat : Int) == 2) with
                | true =>
                  have e2 : (x.what == 2) = true := what_eq x.what 2 h2
                  have eb : thingB x = x.text := by unfold thingB; rw [e0, e1, e2]; rfl
                  rw [eb] at hstep hE
                  clear eb e0 e1 e2 hokx
                  go_wp2_with (first | (refine wpl_loadC rfl rfl rfl Try.isAgg27 Try.sizeOf27 [.int .u8 x.what.toNat, .int .i64 x.width, .int .u64 x.num, .string ⟨x.text.toArray⟩] rfl Hcx.out ?_) | (refine wpl_loadW hE 0 rfl rfl rfl rfl Try.isAgg27 Try.sizeOf27 rfl ?_) | (refine wpl_storeW hE 0 rfl rfl rfl rfl rfl Try.sizeOf27 rfl (by simp [Value.oneCell']) rfl ?_; clear hE; intro w hE) | (go_at_call 21; have H := oTake_num Hnum.out hgd.out.1 (hE.front 1 rfl) (by simp; omega); refine H.mono ?_; clear H; rintro e w2 ⟨v, rfl, rfl, hE⟩; replace hE := hE.front 1 rfl) | (go_at_call 17; have H := Put_any p x.num x.width (hE.front 2 rfl) (by omega); refine H.mono ?_; clear H; rintro e w2 ⟨v, rfl, rfl, hE⟩; replace hE := hE.front 1 rfl) | (go_at_call 23; have H := oText_bytes (hE.front 1 rfl) (by simp; omega); refine H.mono ?_; clear H; rintro e w2 ⟨v, rfl, rfl, hE⟩; replace hE := hE.front 1 rfl) | (go_at_call 19; have H := Text_any p x.text (hE.front 2 rfl) (by omega); refine H.mono ?_; clear H; rintro e w2 ⟨v, rfl, rfl, hE⟩; replace hE := hE.front 1 rfl) | (go_at_call 24; have H := oName_bytes Hnm.out (hE.front 1 rfl) (by simp; omega); refine H.mono ?_; clear H; rintro e w2 ⟨v, rfl, rfl, hE⟩; replace hE := hE.front 1 rfl) | (go_at_call 20; have H := Name_ok p x.text Hnm.out (hE.front 2 rfl) (by omega); refine H.mono ?_; clear H; rintro e w2 ⟨v, rfl, rfl, hE⟩; replace hE := hE.front 1 rfl) | (refine wpl_alloc hE rfl rfl (by simp [go_sem]; rfl) ?_; clear hE; intro b w hE; simp only [Act.eval, Act.put, List.setIfInBounds_toArray, List.set_cons_zero, List.set_cons_succ, getD_lit, List.getD_cons_succ, List.getD_cons_zero, Value.cells] at hE) | (first | (refine wpl_load1 hE 0 rfl rfl rfl rfl (by simp [go_sem]) rfl ?_) | (refine wpl_load1 hE 1 rfl rfl rfl rfl (by simp [go_sem]) rfl ?_) | (refine wpl_load1 hE 2 rfl rfl rfl rfl (by simp [go_sem]) rfl ?_) | (refine wpl_load1 hE 3 rfl rfl rfl rfl (by simp [go_sem]) rfl ?_) | (refine wpl_load1 hE 4 rfl rfl rfl rfl (by simp [go_sem]) rfl ?_) | (refine wpl_load1 hE 5 rfl rfl rfl rfl (by simp [go_sem]) rfl ?_)))
                  go_roundw
                  case rel => exact hstep _ (((hE.tail).front 1 rfl))
                  case measure => simp [intOf]; omega
                | false =>
                  have e2 : (x.what == 2) = false := what_ne x.what 2 h2
                  have eo : thingOk x = decide (x.text.length < 256) := by unfold thingOk; rw [e0, e1, e2]; rfl
                  have eb : thingB x = UInt8.ofNat x.text.length :: x.text := by unfold thingB; rw [e0, e1, e2]; rfl
                  rw [eb] at hstep hE
                  rw [eo] at hokx
                  have Hnm := SL.hid (of_decide_eq_true hokx)
                  clear eo eb e0 e1 e2 hokx
                  go_wp2_with (first | (refine wpl_loadC rfl rfl rfl Try.isAgg27 Try.sizeOf27 [.int .u8 x.what.toNat, .int .i64 x.width, .int .u64 x.num, .string ⟨x.text.toArray⟩] rfl Hcx.out ?_) | (refine wpl_loadW hE 0 rfl rfl rfl rfl Try.isAgg27 Try.sizeOf27 rfl ?_) | (refine wpl_storeW hE 0 rfl rfl rfl rfl rfl Try.sizeOf27 rfl (by simp [Value.oneCell']) rfl ?_; clear hE; intro w hE) | (go_at_call 21; have H := oTake_num Hnum.out hgd.out.1 (hE.front 1 rfl) (by simp; omega); refine H.mono ?_; clear H; rintro e w2 ⟨v, rfl, rfl, hE⟩; replace hE := hE.front 1 rfl) | (go_at_call 17; have H := Put_any p x.num x.width (hE.front 2 rfl) (by omega); refine H.mono ?_; clear H; rintro e w2 ⟨v, rfl, rfl, hE⟩; replace hE := hE.front 1 rfl) | (go_at_call 23; have H := oText_bytes (hE.front 1 rfl) (by simp; omega); refine H.mono ?_; clear H; rintro e w2 ⟨v, rfl, rfl, hE⟩; replace hE := hE.front 1 rfl) | (go_at_call 19; have H := Text_any p x.text (hE.front 2 rfl) (by omega); refine H.mono ?_; clear H; rintro e w2 ⟨v, rfl, rfl, hE⟩; replace hE := hE.front 1 rfl) | (go_at_call 24; have H := oName_bytes Hnm.out (hE.front 1 rfl) (by simp; omega); refine H.mono ?_; clear H; rintro e w2 ⟨v, rfl, rfl, hE⟩; replace hE := hE.front 1 rfl) | (go_at_call 20; have H := Name_ok p x.text Hnm.out (hE.front 2 rfl) (by omega); refine H.mono ?_; clear H; rintro e w2 ⟨v, rfl, rfl, hE⟩; replace hE := hE.front 1 rfl) | (refine wpl_alloc hE rfl rfl (by simp [go_sem]; rfl) ?_; clear hE; intro b w hE; simp only [Act.eval, Act.put, List.setIfInBounds_toArray, List.set_cons_zero, List.set_cons_succ, getD_lit, List.getD_cons_succ, List.getD_cons_zero, Value.cells] at hE) | (first | (refine wpl_load1 hE 0 rfl rfl rfl rfl (by simp [go_sem]) rfl ?_) | (refine wpl_load1 hE 1 rfl rfl rfl rfl (by simp [go_sem]) rfl ?_) | (refine wpl_load1 hE 2 rfl rfl rfl rfl (by simp [go_sem]) rfl ?_) | (refine wpl_load1 hE 3 rfl rfl rfl rfl (by simp [go_sem]) rfl ?_) | (refine wpl_load1 hE 4 rfl rfl rfl rfl (by simp [go_sem]) rfl ?_) | (refine wpl_load1 hE 5 rfl rfl rfl rfl (by simp [go_sem]) rfl ?_)))
                  go_roundw
                  case rel => exact hstep _ (((hE.tail).front 1 rfl))
                  case measure => simp [intOf]; omega
          · have ek : k = xs.length := by omega
            subst ek
            rw [List.drop_length, List.take_length] at hE
            have he : putsB ([] : List Thing) ++ behind = behind := rfl
            rw [he] at hE
            go_wp2_with (first
              | go_skip
              | (go_at_call 16; have H := Bytes_ok (hE.front 1 rfl) (by omega); refine H.mono ?_; clear H; rintro e w2 ⟨v, rfl, ao2, c2, rfl, hE⟩)
              | (refine wpl_bytesStr (bs := putsB xs) rfl rfl rfl Try.underlying33 Try.underlying5 Try.underlying9 (reads_row hE 0 rfl) rfl ?_)
              | (refine wpl_bytesStr (bs := putsB xs) rfl rfl rfl Try.underlying33 Try.underlying5 Try.underlying9 (reads_row hE 3 rfl) rfl ?_)
              | (go_at_call 25; have H := Left_any (hE.front 2 rfl); refine H.mono ?_; clear H; rintro e w2 ⟨rfl, rfl⟩)
              | (go_at_call 26; have H := Err_any (hE.front 2 rfl); refine H.mono ?_; clear H; rintro e w2 ⟨rfl, rfl⟩)
              | (go_at_call 12; have H := wakes1_any hE; refine H.mono ?_; clear H; rintro e w2 ⟨v, rfl, rfl, hE⟩))
            go_ret
            exact ⟨_, rfl, rfl, hE.tail.tail.tail.tail⟩
end Go.Proofs.Ytpchnmcofkffiaa
