/-
  The hash of any bytes: the walk of its function.
-/
import Derived.Test.YtpchnmcofkffiaaDoorSh5
import Derived.Deep.DeepCutAuto
namespace Go.Proofs.YtpchnmcofkffiaaDoor
open Go.RowKit Go.SL

theorem eats_of {l : List HProp} {w : World} {bh c : Nat} {ao : Option Addr} {bs : List UInt8} {v : W8} (hv : v.ok) (hb : bs.length = 64) (ht : Knows l KTab) (hk : Knows l (reads (.slice ao 64 c) 64 (bvals bs))) (hE : Ent (u32c bh 39 v.list :: l) w) :
    Calls Tryd.prog 15 #[.pointer (some ⟨bh, 0, none⟩), .slice ao 64 c] w (fun e w' => e = .returned (.tuple #[]) ∧ Ent (u32c bh 39 (eat v bs).list :: l) w') := by
  obtain ⟨b, off, rfl, _⟩ := reads_form (hk _ hE.tail) (by omega) (by rw [bvals_length, hb]; omega)
  exact eats_any hv hb ht hk hE

def lenV : Value → Nat
  | .slice _ n _ => n
  | _ => 0
def RelE (v0 : W8) (bs : List UInt8) (bh : Nat) (l : List HProp) (s : Value) (wr : World) : Prop :=
  ∃ (q : Nat) (ao : Option Addr) (n c : Nat), n + 64 * q = bs.length ∧ n ≤ c ∧ s = .slice ao n c ∧ Knows l (reads (.slice ao n c) n (bvals (bs.drop (64 * q)))) ∧ Ent (u32c bh 39 (eatAll v0 bs q).list :: l) wr
def Rel8 (rs : List UInt8) (m N g : Nat) (l : List HProp) (i : Value) (wr : World) : Prop :=
  ∃ k : Nat, k ≤ 8 ∧ i = .int .i64 k ∧ Ent (pt g (.cells (bvals (pstate rs m N k)).toArray 5 (0, 0)) :: l) wr
def RelO (v : W8) (cs : List Value) (b : Nat) (l : List HProp) (i : Value) (wr : World) : Prop :=
  ∃ k : Nat, k ≤ 8 ∧ i = .int .i64 k ∧ Ent (pt b (.cells (ostate v cs (4 * k)).toArray 32 (0, 0)) :: l) wr
def RelI (v : W8) (cs : List Value) (b k : Nat) (l : List HProp) (i : Value) (wr : World) : Prop :=
  ∃ j : Nat, j ≤ 4 ∧ i = .int .i64 j ∧ Ent (pt b (.cells (ostate v cs (4 * k + j)).toArray 32 (0, 0)) :: l) wr

set_option maxRecDepth 100000 in
set_option maxHeartbeats 1000000 in
theorem Sum_any {l : List HProp} {w : World} {c : Nat} {ao : Option Addr} {bs : List UInt8} (hb : bs.length ≤ 1099511627776) (hc : bs.length ≤ c) (ht : Knows l KTab) (hf : Knows l FTab) (hk : Knows l (reads (.slice ao bs.length c) bs.length (bvals bs))) (hE : Ent l w) :
    Calls Tryd.prog 12 #[.slice ao bs.length c] w (Ret fun v w' => v = .agg (bvals (shaV bs)).toArray ∧ Ent l w') := by
  have Hk := SL.hid hk
  have Ht := SL.hid ht
  have Hf := SL.hid hf
  clear hk ht hf
  obtain ⟨N, hN⟩ : ∃ N, N = bs.length * 8 := ⟨_, rfl⟩
  have HN := SL.hid hN
  have z1 : IntKind.u64.wrap (bs.length : Int) = (bs.length : Int) := by rw [IntKind.wrap_u64]; omega
  have z2 : IntKind.u64.wrap ((bs.length : Int) * 8) = (N : Int) := by rw [IntKind.wrap_u64, hN]; omega
  have z3 : (bs.length : Int) % 18446744073709551616 = (bs.length : Int) := by omega
  have z4 : (bs.length : Int) * 8 % 18446744073709551616 = (N : Int) := by omega
  have hNs : N ≤ 8796093022208 := by omega
  clear hN
  go_enter Tryd.func12, Tryd.ntmps12
  go_wp2_with (first
    | go_skip
    | ((with_reducible (show Go.wpList _ _ _ (Go.Oper.mk _ (.alloc 32) _ _ _ _ :: _) _ _)); refine wpl_allocN hE rfl rfl (n := 32) (by kernel_rfl) ?_; clear hE; intro bo cs w1 hq hE)
    | ((with_reducible (show Go.wpList _ _ _ (Go.Oper.mk _ (.load _ _) _ _ _ _ :: _) _ _)); refine wpl_loadC rfl rfl rfl Tryd.isAgg39 Tryd.sizeOf39 (hFirst.list.map u32v) rfl (Hf.out _ hE.tail) ?_)
    | ((with_reducible (show Go.wpList _ _ _ (Go.Oper.mk _ (.alloc 39) _ _ _ _ :: _) _ _)); refine wpl_allocN hE rfl rfl (n := 8) (by kernel_rfl) ?_; clear hE; intro bh ds w1 hd hE)
    | ((with_reducible (show Go.wpList _ _ _ (Go.Oper.mk _ (.store _ _ _) _ _ _ _ :: _) _ _)); refine wpl_storeN hE 0 rfl rfl rfl rfl rfl Tryd.sizeOf39 rfl (by simp [Value.oneCell', u32v, W8.list]) hd ?_; clear hE; intro w3 hE; simp only [List.set_cons_zero] at hE; clear hd))
  have Hq := SL.hid hq
  clear hq z1 z2 z3 z4
  go_loopw [0] (fun s wr => RelE hFirst bs bh (pt bo (.cells cs.toArray 32 (0, 0)) :: l) s wr) (fun s _ => lenV s)
  case atStart => exact ⟨0, ao, bs.length, c, by omega, hc, rfl, (by simpa using Hk.out.cons), hE⟩
  case round =>
    clear hE
    obtain ⟨q, ao, n, c, hn, hc, rfl, hk, hE⟩ := hrel
    have Hk2 := SL.hid hk
    clear hk
    by_cases hlt : 64 ≤ n
    · have hkc := SL.hid (fun wx hx => reads_cut (size := 1) (l := 0) (h := 64) (Hk2.out wx hx) (by rw [bvals_length, List.length_drop]; omega) (by omega) hlt hc)
      have hkd := SL.hid (fun wx hx => reads_cut (size := 1) (l := 64) (h := n) (Hk2.out wx hx) (by rw [bvals_length, List.length_drop]; omega) hlt (by omega) hc)
      go_wp2_with (first
        | go_skip
        | ((with_reducible (show Go.wpList _ _ _ (Go.Oper.mk _ (.slice _ _ none (some _) none) _ _ _ _ :: _) _ _)); refine wpl_cut_hi rfl rfl rfl rfl 64 rfl Tryd.underlying22 Tryd.sizeOf5 (by omega) ?_)
        | ((with_reducible (show Go.wpList _ _ _ (Go.Oper.mk _ (.slice _ _ (some _) none none) _ _ _ _ :: _) _ _)); refine wpl_cut_lo rfl rfl rfl rfl 64 rfl Tryd.underlying22 Tryd.sizeOf5 hlt ?_)
        | (go_at_call 15; have H := eats_of (c := c - 0) (ao := cutAt 1 ao c 0) (bs := (bs.drop (64 * q)).take 64) (eatAll_ok hFirst_ok bs q) (by rw [List.length_take, List.length_drop]; omega) Ht.out.cons (fun wx hx => by simpa [bvals] using hkc.out wx hx) hE; refine H.mono ?_; clear H hE; rintro e w2 ⟨rfl, hE⟩))
      go_roundw
      case rel => exact ⟨q + 1, _, n - 64, c - 64, by omega, by omega, rfl, fun wx hx => by have := hkd.out wx hx; rwa [cut_rest hn hlt] at this, by rw [eatAll_snoc]; exact hE⟩
      case measure => show n - 64 < n; omega
    · have hq : q = bs.length / 64 := by omega
      have hrl : (bs.drop (64 * q)).length = n := by rw [List.length_drop]; omega
      have hsha : shaV bs = outOf (eatAll (eatAll hFirst bs q) (pad (bs.drop (64 * q)) N) ((pad (bs.drop (64 * q)) N).length / 64)) := by
        unfold shaV
        rw [HN.out, hq, Nat.mul_comm 64]
      have hvok := eatAll_ok hFirst_ok bs q
      have Hsha := SL.hid hsha
      generalize bs.drop (64 * q) = rs at *
      generalize eatAll hFirst bs q = v at *
      have Hrl := SL.hid hrl
      clear hsha hrl hq hn Hk HN
      go_upto_if 28 with (first
        | go_skip
        | ((with_reducible (show Go.wpList _ _ _ (Go.Oper.mk _ (.makeSlice _ _ _) _ _ _ _ :: _) _ _)); refine wpl_make hE rfl rfl Tryd.underlying22 (zs := [.int .u8 0]) (size := 1) (bytes := 1) (by kernel_rfl) rfl (by decide) 64 rfl rfl (by omega) (by omega) ?_; clear hE; intro bl w3 hE))
      go_cut [5] (fun v5 wx => ∃ (m g : Nat), (m = if 64 < n + 9 then 128 else 64) ∧ v5 = .slice (some ⟨g, 0, none⟩) m m ∧ Ent (pt g (.cells (bvals (List.replicate m 0)).toArray 5 (0, 0)) :: u32c bh 39 v.list :: pt bo (.cells cs.toArray 32 (0, 0)) :: l) wx)
      case first =>
        by_cases h55 : 64 < n + 9
        · have h1 : (64 : Int) < (n : Int) + 9 := by omega
          go_wp2_with (first
            | go_skip
            | ((with_reducible (show Go.wpList _ _ _ (Go.Oper.mk _ (.makeSlice _ _ _) _ _ _ _ :: _) _ _)); refine wpl_make hE rfl rfl Tryd.underlying22 (zs := [.int .u8 0]) (size := 1) (bytes := 1) (by kernel_rfl) rfl (by decide) 128 rfl rfl (by omega) (by omega) ?_; clear hE; intro bl2 w3 hE))
          go_meet
          case rel => exact ⟨128, bl2, by rw [if_pos h55], rfl, by rw [← zeros_flat]; exact row_full (by omega) (hE.erase 1)⟩
        · have h1 : ¬ (64 : Int) < (n : Int) + 9 := by omega
          go_wp2_with (first | go_skip)
          go_meet
          case rel => exact ⟨64, bl, by rw [if_neg h55], rfl, by rw [← zeros_flat]; exact row_full (by omega) hE⟩
      case rest =>
        clear hE
        obtain ⟨m, g, hm, rfl, hE⟩ := hcut
        have hm9 : n + 9 ≤ m ∧ m ≤ 128 ∧ m % 64 = 0 := by split at hm <;> omega
        have hm8 : rs.length + 9 ≤ m := by rw [Hrl.out]; exact hm9.1
        have Hm := SL.hid hm
        clear hm
        have in1 : (n : Int) < (m : Int) := by omega
        go_wp2_with (first
          | go_skip
          | ((with_reducible (show Go.wpList _ _ _ (Go.Oper.mk _ (.call _) _ _ _ _ :: _) _ _)); refine wpl_copyB hE 0 rfl rfl rfl rfl rfl Tryd.underlying22 (by kernel_rfl) (Hk2.out _ hE.tail.tail) (by rw [bvals_length]; exact Hrl.out) (bvals_one _) (by omega) (by rw [bvals_length, List.length_replicate]; omega) ?_; clear hE; intro w4 hE; simp only [List.set_cons_zero] at hE)
          | ((with_reducible (show Go.wpList _ _ _ (Go.Oper.mk _ (.store _ _ _) _ _ _ _ :: _) _ _)); refine wpl_set1 hE 0 rfl rfl rfl (off := n) rfl rfl Tryd.sizeOf5 rfl rfl (by rw [List.length_append, bvals_length, List.length_drop, bvals_length, List.length_replicate, Hrl.out]; omega) ?_; clear hE; intro w5 hE; simp only [List.set_cons_zero] at hE))
        have hE2 : Ent (pt g (.cells (bvals (pstate rs m N 0)).toArray 5 (0, 0)) :: u32c bh 39 v.list :: pt bo (.cells cs.toArray 32 (0, 0)) :: l) w5 := by
          rw [pstate_0 hm8, ← fill_128 Hrl.out hm8]; exact hE
        clear hE in1
        go_loopw [35] (fun i wr => Rel8 rs m N g (u32c bh 39 v.list :: pt bo (.cells cs.toArray 32 (0, 0)) :: l) i wr) (fun i _ => 8 - (intOf i).toNat)
        case atStart => exact ⟨0, Nat.zero_le _, rfl, hE2⟩
        case round =>
          clear hE2
          obtain ⟨k, hk, rfl, hE⟩ := hrel
          by_cases hlt : k < 8
          · have ik : (k : Int) < 8 := by omega
            have hsh : (N : Int) / 2 ^ (8 * k) = ((N / 2 ^ (8 * k) : Nat) : Int) := by simp
            have hps := pstate_set (N := N) hm8 hlt
            have hpl := pstate_len (N := N) hm8 hk
            obtain ⟨p, hp⟩ : ∃ p, p = m - 1 - k := ⟨_, rfl⟩
            have hpm : p < m := by omega
            have x1 : (m : Int) - 1 - (k : Int) = (p : Int) := by omega
            have x2 : (p : Int) < (m : Int) := by omega
            rw [← hp] at hps
            have c1 := byte_of (N / 2 ^ (8 * k))
            have c2 := byte_of' (N / 2 ^ (8 * k))
            generalize UInt8.ofNat (N / 2 ^ (8 * k)) = xb at *
            generalize N / 2 ^ (8 * k) = sh at *
            have Hps := SL.hid hps
            have Hpl := SL.hid hpl
            clear hps hpl hp
            go_wp2_with (first
              | go_skip
              | ((with_reducible (show Go.wpList _ _ _ (Go.Oper.mk _ (.store _ _ _) _ _ _ _ :: _) _ _)); refine wpl_set1 hE 0 rfl rfl rfl (off := p) rfl (v := bval xb) rfl Tryd.sizeOf5 rfl rfl (by rw [bvals_length, Hpl.out]; exact hpm) ?_; clear hE; intro w5 hE; simp only [List.set_cons_zero] at hE; rw [bvals_set, Hps.out] at hE))
            go_roundw
            case rel => exact ⟨k + 1, hlt, by simp, hE⟩
            case measure => simp [intOf]; omega
          · obtain rfl : k = 8 := by omega
            simp only [show ((8 : Nat) : Int) = 8 from rfl]
            rw [pstate_8 Hrl.out Hm.out hm8] at hE
            have hpl : (pad rs N).length = m := by rw [← pstate_8 Hrl.out Hm.out hm8]; exact pstate_len hm8 (Nat.le_refl _)
            generalize pad rs N = ps at *
            have Hpl := SL.hid hpl
            clear hpl hk hlt Hk2
            go_wp2_with (first | go_skip)
            go_loopw [5] (fun s wr => RelE v ps bh (pt g (.cells (bvals ps).toArray 5 (0, 0)) :: pt bo (.cells cs.toArray 32 (0, 0)) :: l) s wr) (fun s _ => lenV s)
            case atStart => exact ⟨0, _, m, m, by rw [Hpl.out]; omega, Nat.le_refl _, rfl, (fun wx hx => reads_pt hx 0 rfl (fun j u hu => by simpa using hu)), hE.front 1 rfl⟩
            case round =>
              clear hE
              obtain ⟨j, ao, n, c, hn, hc, rfl, hk, hE⟩ := hrel
              have Hk2 := SL.hid hk
              clear hk
              by_cases hlt : 0 < n
              · have h64 : 64 ≤ n := by rw [Hpl.out] at hn; omega
                have hkc := SL.hid (fun wx hx => reads_cut (size := 1) (l := 0) (h := 64) (Hk2.out wx hx) (by rw [bvals_length, List.length_drop]; omega) (by omega) h64 hc)
                have hkd := SL.hid (fun wx hx => reads_cut (size := 1) (l := 64) (h := n) (Hk2.out wx hx) (by rw [bvals_length, List.length_drop]; omega) h64 (by omega) hc)
                go_wp2_with (first
                  | go_skip
                  | ((with_reducible (show Go.wpList _ _ _ (Go.Oper.mk _ (.slice _ _ none (some _) none) _ _ _ _ :: _) _ _)); refine wpl_cut_hi rfl rfl rfl rfl 64 rfl Tryd.underlying22 Tryd.sizeOf5 (by omega) ?_)
                  | ((with_reducible (show Go.wpList _ _ _ (Go.Oper.mk _ (.slice _ _ (some _) none none) _ _ _ _ :: _) _ _)); refine wpl_cut_lo rfl rfl rfl rfl 64 rfl Tryd.underlying22 Tryd.sizeOf5 h64 ?_)
                  | (go_at_call 15; have H := eats_of (c := c - 0) (ao := cutAt 1 ao c 0) (bs := (ps.drop (64 * j)).take 64) (eatAll_ok hvok ps j) (by rw [List.length_take, List.length_drop]; omega) Ht.out.cons.cons (fun wx hx => by simpa [bvals] using hkc.out wx hx) hE; refine H.mono ?_; clear H hE; rintro e w2 ⟨rfl, hE⟩))
                go_roundw
                case rel => exact ⟨j + 1, _, n - 64, c - 64, by omega, by omega, rfl, fun wx hx => by have := hkd.out wx hx; rwa [cut_rest hn h64] at this, by rw [eatAll_snoc]; exact hE⟩
                case measure => show n - 64 < n; omega
              · have hj : j = ps.length / 64 := by omega
                rw [hj] at hE
                have hok := eatAll_ok hvok ps (ps.length / 64)
                generalize eatAll v ps (ps.length / 64) = u at *
                clear Hk2 hj
                go_wp2_with (first
                  | go_skip
                  | ((with_reducible (show Go.wpList _ _ _ (Go.Oper.mk _ (.alloc 32) _ _ _ _ :: _) _ _)); refine wpl_allocN hE rfl rfl (n := 32) (by kernel_rfl) ?_; clear hE; intro b7 es w1 he hE)
                  | ((with_reducible (show Go.wpList _ _ _ (Go.Oper.mk _ (.load _ _) _ _ _ _ :: _) _ _)); refine wpl_loadW hE 1 rfl rfl rfl rfl Tryd.isAgg39 Tryd.sizeOf39 rfl ?_))
                have He := SL.hid he
                clear he
                have hE2 : Ent (pt b7 (.cells (ostate u es (4 * 0)).toArray 32 (0, 0)) :: pt bo (.cells cs.toArray 32 (0, 0)) :: l) w1 := (hE.erase 1).erase 1
                clear hE
                go_loopw [60] (fun i wr => RelO u es b7 (pt bo (.cells cs.toArray 32 (0, 0)) :: l) i wr) (fun i _ => 8 - (intOf i).toNat)
                case atStart => exact ⟨0, Nat.zero_le _, rfl, hE2⟩
                case round =>
                  clear hE2
                  obtain ⟨k, hk, rfl, hE⟩ := hrel
                  by_cases hk8 : k < 8
                  · have hix := run_index_u32 Tryd.underlying39 Tryd.underlying23 Tryd.sizeOf23 (u.list.map u32v).toArray hk8 (u32_cell (r := u.list) (k := k) hk8)
                    have ik : (k : Int) < 8 := by omega
                    have Hos := SL.hid (fun (j : Nat) (hj : j < 4) => ostate_set (v := u) He.out hk8 hj)
                    have Hol := SL.hid (fun (j : Nat) (hj : j < 4) => ostate_len (v := u) (k := 4 * k + j) He.out (by omega))
                    generalize u.list.getD k 0 = x at *
                    generalize (u.list.map u32v).toArray = ua at *
                    go_wp2_with (first | go_skip)
                    go_loopw [64] (fun i wr => RelI u es b7 k (pt bo (.cells cs.toArray 32 (0, 0)) :: l) i wr) (fun i _ => 4 - (intOf i).toNat)
                    case atStart => exact ⟨0, Nat.zero_le _, rfl, hE⟩
                    case round =>
                      clear hE
                      obtain ⟨j, hj, rfl, hE⟩ := hrel
                      by_cases hj4 : j < 4
                      · have ij : (j : Int) < 4 := by omega
                        have hset := Hos.out j hj4
                        have hlen := Hol.out j hj4
                        obtain ⟨p, hp⟩ : ∃ p, p = 4 * k + j := ⟨_, rfl⟩
                        have x1 : 4 * (k : Int) + (j : Int) = (p : Int) := by omega
                        have x2 : (p : Int) < 32 := by omega
                        have x3 : p < 32 := by omega
                        rw [← hp] at hset hlen hE
                        have c1 := byte_of (x / 2 ^ (24 - 8 * j))
                        have c2 := byte_of' (x / 2 ^ (24 - 8 * j))
                        have hsh : (x : Int) / 2 ^ (24 - 8 * j) = ((x / 2 ^ (24 - 8 * j) : Nat) : Int) := by simp
                        generalize UInt8.ofNat (x / 2 ^ (24 - 8 * j)) = xb at *
                        generalize x / 2 ^ (24 - 8 * j) = sh at *
                        have Hset := SL.hid hset
                        have Hlen := SL.hid hlen
                        clear hset hlen hp
                        go_wp2_with (first
                          | go_skip
                          | ((with_reducible (show Go.wpList _ _ _ (Go.Oper.mk _ (.store _ _ _) _ _ _ _ :: _) _ _)); refine wpl_set1 hE 0 rfl rfl rfl (off := p) rfl (v := bval xb) rfl Tryd.sizeOf5 rfl rfl (by rw [Hlen.out]; exact x3) ?_; clear hE; intro w5 hE; simp only [List.set_cons_zero] at hE; rw [Hset.out] at hE))
                        go_roundw
                        case rel => exact ⟨j + 1, hj4, by simp, hE⟩
                        case measure => simp [intOf]; omega
                      · obtain rfl : j = 4 := by omega
                        simp only [show ((4 : Nat) : Int) = 4 from rfl]
                        go_wp2_with (first | go_skip)
                        go_roundw
                        case rel => exact ⟨k + 1, hk8, by simp, hE⟩
                        case measure => simp [intOf]; omega
                  · obtain rfl : k = 8 := by omega
                    simp only [show ((8 : Nat) : Int) = 8 from rfl]
                    have hfin : ostate u es (4 * 8) = bvals (outOf u) := by
                      unfold ostate
                      rw [List.take_of_length_le (by rw [outOf_len]; omega), List.drop_of_length_le (by rw [He.out]; omega), List.append_nil]
                    rw [hfin, ← Hsha.out] at hE
                    have hsl : (bvals (shaV bs)).length = 32 := by rw [Hsha.out, bvals_length]; rfl
                    have hone := bvals_one (shaV bs)
                    generalize hys : bvals (shaV bs) = ys at *
                    have Hys := SL.hid hys
                    have Hsl := SL.hid hsl
                    have Hone := SL.hid hone
                    clear hfin hsl hone hys
                    go_wp2_with (first
                      | go_skip
                      | ((with_reducible (show Go.wpList _ _ _ (Go.Oper.mk _ (.load _ _) _ _ _ _ :: _) _ _)); refine wpl_loadW hE 0 rfl rfl rfl rfl Tryd.isAgg32 Tryd.sizeOf32 Hsl.out ?_)
                      | ((with_reducible (show Go.wpList _ _ _ (Go.Oper.mk _ (.store _ _ _) _ _ _ _ :: _) _ _)); refine wpl_storeN hE 1 rfl rfl rfl rfl rfl Tryd.sizeOf32 Hsl.out Hone.out Hq.out ?_; clear hE; intro w9 hE; simp only [List.set_cons_zero, List.set_cons_succ] at hE))
                    refine bodyPost_ret (results_cellA rfl hE 1 rfl rfl Tryd.isAgg32 Tryd.sizeOf32 Hsl.out) rfl ⟨_, rfl, by rw [Hys.out], hE.tail.tail⟩
end Go.Proofs.YtpchnmcofkffiaaDoor
