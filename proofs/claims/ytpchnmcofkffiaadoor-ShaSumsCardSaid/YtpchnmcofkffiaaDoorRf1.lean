/-
  Numbers of nine groups, as the document's own hash reckons roots with them: split, multiplied, compared.
-/
import Derived.Test.YtpchnmcofkffiaaDoorSh6
import Derived.Deep.RegionHeld3
namespace Go.SL
section
variable {P : Program} {ops : Array Oper} {rest : List Oper} {o : Oper} {a : Act} {Q : Exit → Act → World → Prop} {w : World} {l : List HProp}
/-- a new block whose cells are known -/
theorem wpl_allocL (hE : Ent l w) {t : TypeId} (ho : o.op = .alloc t) (hw : Region.wanted o (yielded ops a.tmps) = true) {zs : List Value} {size bytes : Nat} (hz : zeroList P t = some (zs, size, bytes))
    (h : ∀ b w', Ent (pt b (.cells zs.toArray t) :: l) w' → wpList P ops Q rest (a.put o.dst (.pointer (some ⟨b, 0, none⟩))) w') : wpList P ops Q (o :: rest) a w := by
  obtain ⟨i, z, h1, h2, _, _, h5⟩ := zeroList_parts hz
  refine wpl_alloc hE ho hw (v := z) (fun w => by simp [zeroValue, typeInfo, h1, h2]) fun b w' hE' => h b w' ?_
  rw [← h5]
  simpa using hE'
end
end Go.SL
namespace Go.Proofs.YtpchnmcofkffiaaDoor
open Go.RowKit Go.SL

def u64v (n : Nat) : Value := .int .u64 (n : Int)
abbrev u64c (b : Nat) (T : TypeId) (r : List Nat) : HProp := pt b (.cells (r.map u64v).toArray T (0, 0))
theorem u64_cell {r : List Nat} {k : Nat} (h : k < r.length) : (r.map u64v).toArray[k]? = some (.int .u64 ((r.getD k 0 : Nat) : Int)) := by
  simp [h, u64v, List.getD_eq_getElem?_getD]
theorem u64_at {l : List HProp} {w : World} {b : Nat} {T : TypeId} {r : List Nat} (hE : Ent l w) (i : Nat) (hi : l[i]? = some (u64c b T r)) {k : Nat} (h : k < r.length) : w.cell? ⟨b, k, none⟩ = some (.int .u64 ((r.getD k 0 : Nat) : Int)) :=
  (hE.cell i hi k).trans (u64_cell h)
theorem u64_one (r : List Nat) : ∀ u ∈ r.map u64v, u.oneCell' = true := by
  intro u hu
  obtain ⟨_, _, rfl⟩ := List.mem_map.1 hu
  rfl
theorem u64_set (r : List Nat) (k n : Nat) : (r.map u64v).set k (.int .u64 (n : Int)) = (r.set k n).map u64v := by
  rw [List.map_set]; rfl

def zero9 : List Nat := List.replicate 9 0
/-- a number's groups, the first so many -/
def wideAt (n : Nat) : Nat → List Nat
  | 0 => zero9
  | k + 1 => (wideAt n k).set k (n / 65536 ^ k % 65536)
def wideL (n : Nat) : List Nat := wideAt n 4
theorem wideAt_len (n : Nat) : ∀ k, (wideAt n k).length = 9
  | 0 => rfl
  | k + 1 => by rw [wideAt, List.length_set, wideAt_len n k]

def WideRel (n b : Nat) (l : List HProp) (s i : Value) (wr : World) : Prop :=
  ∃ k : Nat, k ≤ 4 ∧ i = .int .i64 k ∧ s = .int .u64 ((n / 65536 ^ k : Nat) : Int) ∧ Ent (u64c b 56 (wideAt n k) :: l) wr

set_option maxRecDepth 100000 in
theorem wide_any {l : List HProp} {w : World} (n : Nat) (hn : n < 18446744073709551616) (hE : Ent l w) :
    Calls Tryd.prog 25 #[.int .u64 (n : Int)] w (Ret fun v w' => v = .agg ((wideL n).map u64v).toArray ∧ Ent l w') := by
  go_enter Tryd.func25, Tryd.ntmps25
  go_wp2_with (first
    | go_skip
    | ((with_reducible (show Go.wpList _ _ _ (Go.Oper.mk _ (.alloc _) _ _ _ _ :: _) _ _)); refine wpl_allocL hE rfl rfl (zs := zero9.map u64v) (size := 9) (bytes := 72) (by kernel_rfl) ?_; clear hE; intro b0 w1 hE1)
    | ((with_reducible (show Go.wpList _ _ _ (Go.Oper.mk _ (.alloc _) _ _ _ _ :: _) _ _)); refine wpl_allocL hE1 rfl rfl (zs := zero9.map u64v) (size := 9) (bytes := 72) (by kernel_rfl) ?_; clear hE1; intro b w1 hE2))
  go_loopw [0, 4] (fun s i wr => WideRel n b (u64c b0 56 zero9 :: l) s i wr) (fun _ i _ => 4 - (intOf i).toNat)
  case atStart => exact ⟨0, Nat.zero_le _, rfl, by simp, hE2⟩
  case round =>
    clear hE2
    obtain ⟨k, hk, rfl, rfl, hE⟩ := hrel
    by_cases hlt : k < 4
    · have ik : (k : Int) < 4 := by omega
      have Hlen := SL.hid (wideAt_len n k)
      have Hnext : RowKit.Hid (wideAt n (k + 1) = (wideAt n k).set k (n / 65536 ^ k % 65536)) := SL.hid rfl
      have Hq : RowKit.Hid (n / 65536 ^ (k + 1) = n / 65536 ^ k / 65536) := SL.hid (by rw [Nat.pow_succ, Nat.div_div_eq_div_mul])
      have hqn : n / 65536 ^ k < 18446744073709551616 := Nat.lt_of_le_of_lt (Nat.div_le_self _ _) hn
      generalize n / 65536 ^ k = q at *
      have hwq : IntKind.u64.wrap ((q : Int) / 65536) = (q : Int) / 65536 := by rw [IntKind.wrap_u64]; omega
      go_wp2_with (first
        | go_skip
        | ((with_reducible (show Go.wpList _ _ _ (Go.Oper.mk _ (.store _ _ _) _ _ _ _ :: _) _ _)); refine wpl_set1 hE 0 rfl rfl rfl (off := k) rfl (v := .int .u64 ((q % 65536 : Nat) : Int)) rfl Tryd.sizeOf40 rfl rfl (by rw [List.length_map, Hlen.out]; omega) ?_; clear hE; intro w5 hE; simp only [List.set_cons_zero] at hE; rw [u64_set, ← Hnext.out] at hE))
      go_roundw
      case rel => exact ⟨k + 1, hlt, by simp, by rw [Hq.out]; simp, hE⟩
      case measure => simp [intOf]; omega
    · obtain rfl : k = 4 := by omega
      have Hs := SL.hid (show ((wideAt n 4).map u64v).length = 9 by rw [List.length_map, wideAt_len])
      have Hone := SL.hid (u64_one (wideAt n 4))
      go_wp2_with (first
        | go_skip
        | ((with_reducible (show Go.wpList _ _ _ (Go.Oper.mk _ (.load _ _) _ _ _ _ :: _) _ _)); refine wpl_loadW hE 0 rfl rfl rfl rfl Tryd.isAgg56 Tryd.sizeOf56 Hs.out ?_)
        | ((with_reducible (show Go.wpList _ _ _ (Go.Oper.mk _ (.store _ _ _) _ _ _ _ :: _) _ _)); refine wpl_storeN hE 1 rfl rfl rfl rfl rfl Tryd.sizeOf56 Hs.out Hone.out rfl ?_; clear hE; intro w9 hE; simp only [List.set_cons_zero, List.set_cons_succ] at hE))
      refine bodyPost_ret (results_cellA rfl hE 1 rfl rfl Tryd.isAgg56 Tryd.sizeOf56 Hs.out) rfl ⟨_, rfl, rfl, hE.tail.tail⟩
end Go.Proofs.YtpchnmcofkffiaaDoor
