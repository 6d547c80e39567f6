/-
  The document's tables: which numbers they hold.
-/
import Derived.Test.YtpchnmcofkffiaaDoorRf4
namespace Go.Proofs.YtpchnmcofkffiaaDoor
open Go.RowKit Go.SL

def pr (i : Nat) : Nat := primes64.getD i 0
def tabAt : Nat → List Nat
  | 0 => List.replicate 72 0
  | i + 1 => if i < 8 then ((tabAt i).set i (rootV (pr i) 3)).set (64 + i) (rootV (pr i) 2) else (tabAt i).set i (rootV (pr i) 3)
theorem tabAt_len : ∀ i, (tabAt i).length = 72
  | 0 => rfl
  | i + 1 => by
    rw [tabAt]
    split <;> simp [tabAt_len i]
theorem pr_lt (i : Nat) : pr i < 1000 := by
  unfold pr
  rw [List.getD_eq_getElem?_getD]
  cases h : primes64[i]? with
  | none => simp
  | some x =>
    have : ∀ x ∈ primes64, x < 1000 := by decide
    exact this x (List.mem_of_getElem? h)
abbrev tabV (r : List Nat) : Value := .agg (r.map u32v).toArray
theorem u32_set (r : List Nat) (k n : Nat) : (r.map u32v).set k (.int .u32 (n : Int)) = (r.set k n).map u32v := by
  rw [List.map_set]; rfl
theorem u32_one (r : List Nat) : ∀ u ∈ r.map u32v, u.oneCell' = true := by
  intro u hu
  obtain ⟨_, _, rfl⟩ := List.mem_map.1 hu
  rfl
def TabRel (bt : Nat) (l : List HProp) (i : Value) (wr : World) : Prop :=
  ∃ k : Nat, k ≤ 64 ∧ i = .int .i64 k ∧ Ent (pt bt (.cells ((tabAt k).map u32v).toArray 45 (0, 0)) :: l) wr

set_option maxRecDepth 100000 in
set_option maxHeartbeats 1000000 in
theorem Tables_any {l : List HProp} {w : World} (hE : Ent l w) :
    Calls Tryd.prog 17 #[] w (Ret fun v w' => v = tabV (tabAt 64) ∧ Ent l w') := by
  go_enter Tryd.func17, Tryd.ntmps17
  go_wp2_with (first
    | go_skip
    | ((with_reducible (show Go.wpList _ _ _ (Go.Oper.mk _ (.alloc _) _ _ _ _ :: _) _ _)); refine wpl_allocL hE rfl rfl (zs := (List.replicate 72 0).map u32v) (size := 72) (bytes := 288) (by kernel_rfl) ?_; clear hE; intro b0 w1 hE1)
    | ((with_reducible (show Go.wpList _ _ _ (Go.Oper.mk _ (.alloc _) _ _ _ _ :: _) _ _)); refine wpl_allocL hE1 rfl rfl (zs := (List.replicate 72 0).map u32v) (size := 72) (bytes := 288) (by kernel_rfl) ?_; clear hE1; intro bt w1 hE2)
    | (go_at_call 22; refine (Primes_64 hE2).mono ?_; clear hE2; rintro e w2 ⟨v, rfl, ao, c, rfl, hE3⟩))
  obtain ⟨g, rfl, _, _⟩ := hE3.rowIs 0 rfl (by omega)
  have hE4 : Ent (pt bt (.cells ((tabAt 0).map u32v).toArray 45 (0, 0)) :: row 40 1 (.slice (some ⟨g, 0, none⟩) 64 c) 64 (primes64.map u64v) :: u32c b0 45 (List.replicate 72 0) :: l) w2 := hE3.front 1 rfl
  clear hE3
  go_loopw [3] (fun i wr => TabRel bt (row 40 1 (.slice (some ⟨g, 0, none⟩) 64 c) 64 (primes64.map u64v) :: u32c b0 45 (List.replicate 72 0) :: l) i wr) (fun i _ => 64 - (intOf i).toNat)
  case atStart => exact ⟨0, Nat.zero_le _, rfl, hE4⟩
  case round =>
    clear hE4
    obtain ⟨k, hk, rfl, hE⟩ := hrel
    have Htl := SL.hid (tabAt_len k)
    by_cases hlt : k < 64
    · have ik : (k : Int) < 64 := by omega
      have hpk : (primes64.map u64v)[k]? = some (.int .u64 ((pr k : Nat) : Int)) := by
        have : k < primes64.length := hlt
        simp [this, u64v, pr, List.getD_eq_getElem?_getD]
      have c0 := hE.rowCell 1 rfl hpk
      have hprl := pr_lt k
      have Hn : RowKit.Hid (tabAt (k + 1) = if k < 8 then ((tabAt k).set k (rootV (pr k) 3)).set (64 + k) (rootV (pr k) 2) else (tabAt k).set k (rootV (pr k) 3)) := SL.hid rfl
      generalize tabAt k = t0 at *
      generalize pr k = p at *
      have Hpk := SL.hid hpk
      clear hpk
      have hR3 : ∀ (w : World) (L : List HProp), Ent L w → Calls Tryd.prog 23 #[.int .u64 (p : Int), .int .i64 3] w (Ret fun v w' => v = .int .u32 ((rootV p 3 : Nat) : Int) ∧ Ent L w') := fun w L h => Root_any p 3 (by omega) (by omega) (by omega) h
      have hR2 : ∀ (w : World) (L : List HProp), Ent L w → Calls Tryd.prog 23 #[.int .u64 (p : Int), .int .i64 2] w (Ret fun v w' => v = .int .u32 ((rootV p 2 : Nat) : Int) ∧ Ent L w') := fun w L h => Root_any p 2 (by omega) (by omega) (by omega) h
      generalize rootV p 3 = v3 at *
      generalize rootV p 2 = v2 at *
      have HR3 := SL.hid hR3
      have HR2 := SL.hid hR2
      clear hR3 hR2
      by_cases hk8 : k < 8
      · have ik8 : (k : Int) < 8 := by omega
        have hn1 := Hn.out
        rw [if_pos hk8] at hn1
        have Hn1 := SL.hid hn1
        have Ht2 := SL.hid (show (t0.set k v3).length = 72 by rw [List.length_set, Htl.out])
        clear hn1 Hn
        go_wp2_with (first
          | go_skip
          | (go_at_call 23; have HH := HR3.out _ _ hE; refine HH.mono ?_; clear HH; clear hE c0; rintro e w2 ⟨v, rfl, rfl, hE1⟩)
          | ((with_reducible (show Go.wpList _ _ _ (Go.Oper.mk _ (.store _ _ _) _ _ _ _ :: _) _ _)); refine wpl_set1 hE1 0 rfl rfl rfl (off := k) rfl (v := .int .u32 (v3 : Int)) rfl Tryd.sizeOf23 rfl rfl (by rw [List.length_map, Htl.out]; omega) ?_; clear hE1; intro w5 hE2; simp only [List.set_cons_zero] at hE2; rw [u32_set] at hE2; have c0 := hE2.rowCell 1 rfl Hpk.out)
          | (go_at_call 23; have HH := HR2.out _ _ hE2; refine HH.mono ?_; clear HH; clear hE2 c0; rintro e w2 ⟨v, rfl, rfl, hE3⟩)
          | ((with_reducible (show Go.wpList _ _ _ (Go.Oper.mk _ (.store _ _ _) _ _ _ _ :: _) _ _)); refine wpl_set1 hE3 0 rfl rfl rfl (off := 64 + k) rfl (v := .int .u32 (v2 : Int)) rfl Tryd.sizeOf23 rfl rfl (by rw [List.length_map, Ht2.out]; omega) ?_; clear hE3; intro w5 hE4; simp only [List.set_cons_zero] at hE4; rw [u32_set, ← Hn1.out] at hE4))
        go_roundw
        case rel => exact ⟨k + 1, hlt, by simp, hE4⟩
        case measure => simp [intOf]; omega
      · have ik8 : ¬ (k : Int) < 8 := by omega
        have hn1 := Hn.out
        rw [if_neg hk8] at hn1
        have Hn1 := SL.hid hn1
        clear hn1 Hn
        go_wp2_with (first
          | go_skip
          | (go_at_call 23; have HH := HR3.out _ _ hE; refine HH.mono ?_; clear HH; clear hE c0; rintro e w2 ⟨v, rfl, rfl, hE1⟩)
          | ((with_reducible (show Go.wpList _ _ _ (Go.Oper.mk _ (.store _ _ _) _ _ _ _ :: _) _ _)); refine wpl_set1 hE1 0 rfl rfl rfl (off := k) rfl (v := .int .u32 (v3 : Int)) rfl Tryd.sizeOf23 rfl rfl (by rw [List.length_map, Htl.out]; omega) ?_; clear hE1; intro w5 hE2; simp only [List.set_cons_zero] at hE2; rw [u32_set, ← Hn1.out] at hE2))
        go_roundw
        case rel => exact ⟨k + 1, hlt, by simp, hE2⟩
        case measure => simp [intOf]; omega
    · obtain rfl : k = 64 := by omega
      simp only [show ((64 : Nat) : Int) = 64 from rfl]
      have Hs := SL.hid (show ((tabAt 64).map u32v).length = 72 by rw [List.length_map, Htl.out])
      have Hone := SL.hid (u32_one (tabAt 64))
      generalize hts : (tabAt 64).map u32v = ts at *
      have Hts := SL.hid hts
      clear hts
      go_wp2_with (first
        | go_skip
        | ((with_reducible (show Go.wpList _ _ _ (Go.Oper.mk _ (.load _ _) _ _ _ _ :: _) _ _)); refine wpl_loadW hE 0 rfl rfl rfl rfl Tryd.isAgg45 Tryd.sizeOf45 Hs.out ?_)
        | ((with_reducible (show Go.wpList _ _ _ (Go.Oper.mk _ (.store _ _ _) _ _ _ _ :: _) _ _)); refine wpl_storeN hE 2 rfl rfl rfl (xs := ts) rfl rfl Tryd.sizeOf45 Hs.out Hone.out rfl ?_; clear hE; intro w9 hE; simp only [List.set_cons_zero, List.set_cons_succ] at hE))
      refine bodyPost_ret (results_cellA rfl hE 2 rfl rfl Tryd.isAgg45 Tryd.sizeOf45 Hs.out) rfl ⟨_, rfl, by rw [← Hts.out], hE.tail.tail.tail⟩
end Go.Proofs.YtpchnmcofkffiaaDoor
