/-
  A text as the document's own hash cuts it: filled up, in words.
-/
import Derived.Test.YtpchnmcofkffiaaDoorRf6
import Derived.Test.YtpchnmcofkffiaaDoorRf5
namespace Go.Proofs.YtpchnmcofkffiaaDoor
open Go.RowKit Go.SL

theorem bytes_add3 (a b : List UInt8) : (⟨a.toArray⟩ : ByteArray) ++ ⟨b.toArray⟩ = ⟨(a ++ b).toArray⟩ := by
  apply ByteArray.ext
  simp [ByteArray.data_append]
theorem run_index_str {P : Program} {t : TypeId} (h : P.underlying t = some .string) {bs : List UInt8} {k : Nat} (hk : k < bs.length) (w : World) :
    (Instr.index t (.string ⟨bs.toArray⟩) (.int .i64 (k : Int))).run P w = .ok (.int .u8 ((bs.getD k 0).toNat : Int)) w := by
  have h1 : (⟨bs.toArray⟩ : ByteArray)[k]? = some (bs.getD k 0) := by
    rw [List.getD_eq_getElem?_getD, List.getElem?_eq_getElem hk]
    have : k < (⟨bs.toArray⟩ : ByteArray).size := by simpa [ByteArray.size] using hk
    rw [getElem?_pos (⟨bs.toArray⟩ : ByteArray) k this]
    simp [ByteArray.getElem_eq_getElem_data]
  simp [Instr.index, asIntOf, run_underlying h, h1]

def zNeed (n : Nat) : Nat := (119 - n % 64) % 64
def padB (bs : List UInt8) (z : Nat) : List UInt8 := bs ++ [128] ++ List.replicate z 0
def padR (bs : List UInt8) : List UInt8 := padB bs (zNeed bs.length) ++ lastOf8 (bs.length * 8)
theorem padB_len (bs : List UInt8) (z : Nat) : (padB bs z).length = bs.length + 1 + z := by simp [padB]; omega
theorem padR_len (bs : List UInt8) : (padR bs).length = bs.length + 9 + zNeed bs.length := by
  rw [padR, List.length_append, padB_len, lastOf8_len]; omega
theorem padR_64 (bs : List UInt8) : (padR bs).length % 64 = 0 := by
  rw [padR_len, zNeed]; omega
theorem padB_next (bs : List UInt8) (z : Nat) : padB bs z ++ [0] = padB bs (z + 1) := by
  unfold padB
  rw [List.append_assoc, ← List.replicate_succ']
theorem last_at {N k : Nat} (hk : k < 8) : (lastOf8 N).take k ++ [UInt8.ofNat (N / 2 ^ (8 * (7 - k)))] = (lastOf8 N).take (k + 1) := by
  rw [List.take_add_one]
  congr 1
  unfold lastOf8
  rw [List.getElem?_map, List.getElem?_range hk]
  rfl

theorem info32 : elemInfo Tryd.prog 23 = some (some 1, 1, 4) := by kernel_rfl
theorem mul_wide (c : UInt8) (k : Nat) (h : k ≤ 16777216) : IntKind.u32.wrap (((c.toNat : Nat) : Int) * (k : Int)) = ((c.toNat * k : Nat) : Int) := shl_wide c k h
theorem word_sum (a b c d : UInt8) (w : Nat) (h : w = a.toNat * 16777216 + b.toNat * 65536 + c.toNat * 256 + d.toNat) : ∃ y0 y1 y2 y3 y4 : Nat,
    IntKind.u32.wrap (((a.toNat : Nat) : Int) * 16777216) = (y0 : Int) ∧ IntKind.u32.wrap (((b.toNat : Nat) : Int) * 65536) = (y1 : Int) ∧ IntKind.u32.wrap (((c.toNat : Nat) : Int) * 256) = (y2 : Int) ∧
    IntKind.u32.wrap ((y0 : Int) + (y1 : Int)) = (y3 : Int) ∧ IntKind.u32.wrap ((y3 : Int) + (y2 : Int)) = (y4 : Int) ∧ IntKind.u32.wrap ((y4 : Int) + ((d.toNat : Nat) : Int)) = (w : Int) := by
  have ha := a.toNat_lt
  have hb := b.toNat_lt
  have hc := c.toNat_lt
  have hd := d.toNat_lt
  refine ⟨a.toNat * 16777216, b.toNat * 65536, c.toNat * 256, a.toNat * 16777216 + b.toNat * 65536, a.toNat * 16777216 + b.toNat * 65536 + c.toNat * 256, shl_wide a 16777216 (by omega), shl_wide b 65536 (by omega), shl_wide c 256 (by omega), ?_, ?_, ?_⟩ <;> rw [IntKind.wrap_u32'] <;> omega

def lenS : Value → Nat
  | .string b => b.size
  | _ => 0
def ZRel (bs : List UInt8) (l : List HProp) (s : Value) (wr : World) : Prop :=
  ∃ z : Nat, z ≤ zNeed bs.length ∧ s = .string ⟨(padB bs z).toArray⟩ ∧ Ent l wr
def LRel (bs : List UInt8) (N : Nat) (l : List HProp) (s i : Value) (wr : World) : Prop :=
  ∃ k : Nat, k ≤ 8 ∧ i = .int .i64 (7 - (k : Int)) ∧ s = .string ⟨(padB bs (zNeed bs.length) ++ (lastOf8 N).take k).toArray⟩ ∧ Ent l wr
def wordsOf (p : List UInt8) (k : Nat) : List Nat := (List.range k).map (wordOf p)
def BRel (p : List UInt8) (l : List HProp) (s i : Value) (wr : World) : Prop :=
  ∃ (k : Nat) (ao : Option Addr) (c : Nat), 4 * k ≤ p.length ∧ i = .int .i64 ((4 * k : Nat) : Int) ∧ s = .slice ao k c ∧ Ent (row 23 1 (.slice ao k c) k ((wordsOf p k).map u32v) :: l) wr

set_option maxRecDepth 100000 in
set_option maxHeartbeats 1000000 in
theorem Blocks_any {l : List HProp} {w : World} {bs : List UInt8} (hb : bs.length ≤ 1000000) (hE : Ent l w) :
    Calls Tryd.prog 20 #[.string ⟨bs.toArray⟩] w (Ret fun v w' => ∃ ao c, v = .slice ao ((padR bs).length / 4) c ∧ Ent (row 23 1 (.slice ao ((padR bs).length / 4) c) ((padR bs).length / 4) ((wordsOf (padR bs) ((padR bs).length / 4)).map u32v) :: l) w') := by
  obtain ⟨N, hN⟩ : ∃ N, N = bs.length * 8 := ⟨_, rfl⟩
  have hpr : padR bs = padB bs (zNeed bs.length) ++ lastOf8 N := by rw [hN]; rfl
  have z1 : IntKind.u64.wrap (bs.length : Int) = (bs.length : Int) := by rw [IntKind.wrap_u64]; omega
  have z2 : IntKind.u64.wrap ((bs.length : Int) * 8) = (N : Int) := by rw [IntKind.wrap_u64, hN]; omega
  have hsz : (⟨bs.toArray⟩ : ByteArray).size = bs.length := by simp [ByteArray.size]
  have hNs : N ≤ 8000000 := by omega
  have Hpr := SL.hid hpr
  clear hpr hN
  have hp0 : (⟨bs.toArray⟩ : ByteArray) ++ ⟨#[128]⟩ = ⟨(padB bs 0).toArray⟩ := by rw [show (#[128] : Array UInt8) = [128].toArray from rfl, bytes_add3]; simp [padB]
  go_enter Tryd.func20, Tryd.ntmps20
  go_wp2_with (first | go_skip)
  have Hz := SL.hid hsz
  clear z1 z2 hsz hp0
  go_loopw [0] (fun s wr => ZRel bs l s wr) (fun s _ => 2000000 - lenS s)
  case atStart => exact ⟨0, Nat.zero_le _, rfl, hE⟩
  case round =>
    clear hE
    obtain ⟨z, hz, rfl, hE⟩ := hrel
    have hs1 : (⟨(padB bs z).toArray⟩ : ByteArray).size = bs.length + 1 + z := by rw [← padB_len bs z]; simp [ByteArray.size]
    have hs2 : (⟨(padB bs z).toArray⟩ : ByteArray) ++ ⟨#[0]⟩ = ⟨(padB bs (z + 1)).toArray⟩ := by rw [show (#[0] : Array UInt8) = [0].toArray from rfl, bytes_add3, padB_next]
    have hs3 : (⟨(padB bs (z + 1)).toArray⟩ : ByteArray).size = bs.length + 1 + (z + 1) := by rw [← padB_len bs (z + 1)]; simp [ByteArray.size]
    have hz64 : zNeed bs.length < 64 := Nat.mod_lt _ (by decide)
    by_cases hlt : z < zNeed bs.length
    · have hr : (bs.length + 1 + z) % 64 ≠ 56 := by unfold zNeed at hlt; omega
      obtain ⟨L, hL⟩ : ∃ L, L = bs.length + 1 + z := ⟨_, rfl⟩
      rw [← hL] at hs1 hr
      have m1 : ((L : Int)).tmod 64 = ((L % 64 : Nat) : Int) := by simp [Int.tmod_eq_emod_of_nonneg]
      have m2 : ((L : Int)) % 64 = ((L % 64 : Nat) : Int) := by simp
      generalize L % 64 = r at *
      have hr2 : ¬ (r : Int) = 56 := by omega
      have hr3 : ((r : Int) != 56) = true := by simpa using hr2
      have hr4 : ((r : Int) == 56) = false := by simpa using hr2
      have HL := SL.hid hL
      have Hs3 := SL.hid hs3
      clear hL hs3
      generalize hS : (⟨(padB bs z).toArray⟩ : ByteArray) = S at *
      generalize hS2 : (⟨(padB bs (z + 1)).toArray⟩ : ByteArray) = S2 at *
      have HS2 := SL.hid hS2
      have Hs1 := SL.hid hs1
      clear hS hS2
      have hL6 : L ≤ 1000100 := by rw [HL.out]; omega
      go_wp2_with (first | go_skip)
      go_roundw
      case rel => exact ⟨z + 1, hlt, by rw [HS2.out], hE⟩
      case measure => show 2000000 - S2.size < 2000000 - S.size; rw [Hs3.out, Hs1.out, HL.out]; omega
    · have hzz : z = zNeed bs.length := by omega
      have hr : (bs.length + 1 + z) % 64 = 56 := by rw [hzz]; unfold zNeed; omega
      clear hs2 hs3
      obtain ⟨L, hL⟩ : ∃ L, L = bs.length + 1 + z := ⟨_, rfl⟩
      rw [← hL] at hs1 hr
      have m1 : ((L : Int)).tmod 64 = 56 := by rw [Int.tmod_eq_emod_of_nonneg (by omega)]; omega
      have m2 : ((L : Int)) % 64 = 56 := by omega
      clear hr
      have hE0 : Ent l wr := hE
      have hrel0 : LRel bs N l (.string ⟨(padB bs z).toArray⟩) (.int .i64 7) wr := ⟨0, by omega, rfl, by rw [hzz]; simp, hE⟩
      generalize hS : (⟨(padB bs z).toArray⟩ : ByteArray) = S at *
      have Hrel0 := SL.hid hrel0
      clear hrel0 hS hzz hlt hz hL hE hE0
      go_wp2_with (first | go_skip)
      clear m1 m2 hs1
      go_loopw [0, 4] (fun s i wr => LRel bs N l s i wr) (fun _ i _ => (intOf i + 1).toNat)
      case atStart => exact Hrel0.out
      case round =>
        clear Hrel0
        obtain ⟨k, hk, rfl, rfl, hE⟩ := hrel
        by_cases hk8 : k < 8
        · have i0 : (0 : Int) ≤ 7 - (k : Int) := by omega
          obtain ⟨d, hd⟩ : ∃ d : Nat, d = 7 - k := ⟨_, rfl⟩
          have hd1 : 7 - (k : Int) = (d : Int) := by omega
          have hd8 : d < 8 := by omega
          have hla := last_at (N := N) hk8
          rw [← hd] at hla
          have hsh := fun w => shr_u64 (P := Tryd.prog) (N := N) hd8 w
          have hsh2 : (N : Int) / 2 ^ (8 * d) = ((N / 2 ^ (8 * d) : Nat) : Int) := by simp
          have c1 := byte_of (N / 2 ^ (8 * d))
          have c2 := byte_of' (N / 2 ^ (8 * d))
          generalize UInt8.ofNat (N / 2 ^ (8 * d)) = xb at *
          generalize N / 2 ^ (8 * d) = sh at *
          have hsz1 : (⟨(padB bs (zNeed bs.length) ++ (lastOf8 N).take k).toArray⟩ : ByteArray).size ≤ 1000200 := by
            have hz64 : zNeed bs.length < 64 := Nat.mod_lt _ (by decide)
            have : (⟨(padB bs (zNeed bs.length) ++ (lastOf8 N).take k).toArray⟩ : ByteArray).size = (padB bs (zNeed bs.length) ++ (lastOf8 N).take k).length := by simp [ByteArray.size]
            rw [this, List.length_append, padB_len, List.length_take]; omega
          have hsz2 : (⟨#[xb]⟩ : ByteArray).size = 1 := rfl
          have hcat : (⟨(padB bs (zNeed bs.length) ++ (lastOf8 N).take k).toArray⟩ : ByteArray) ++ ⟨[xb].toArray⟩ = ⟨(padB bs (zNeed bs.length) ++ (lastOf8 N).take (k + 1)).toArray⟩ := by rw [bytes_add3, List.append_assoc, hla]
          generalize (⟨(padB bs (zNeed bs.length) ++ (lastOf8 N).take k).toArray⟩ : ByteArray) = S at *
          generalize hS2 : (⟨(padB bs (zNeed bs.length) ++ (lastOf8 N).take (k + 1)).toArray⟩ : ByteArray) = S2 at *
          have HS2 := SL.hid hS2
          have Hcat := SL.hid hcat
          rw [hd1]
          have Hd1 := SL.hid hd1
          clear hS2 hla hd hd1 hcat
          go_wp2_with (first
            | go_skip
            | ((with_reducible (show Go.wpList _ _ _ (Go.Oper.mk _ (.convert 22 9 _) _ _ _ _ :: _) _ _)); refine wpl_bytesStr (bs := [xb]) rfl rfl rfl Tryd.underlying22 Tryd.underlying5 Tryd.underlying9 (reads_pt (hE.alloc _) 0 rfl (off := 0) (fun j u hu => by simpa using hu)) rfl ?_; have hE1 := (hE.alloc (.cells #[.int .u8 (xb.toNat : Int)] 5)).tail; clear hE))
          go_roundw
          case rel => exact ⟨k + 1, hk8, by rw [← Hd1.out]; congr 1; omega, by rw [show (⟨#[xb]⟩ : ByteArray) = ⟨[xb].toArray⟩ from rfl, Hcat.out, HS2.out], hE1⟩
          case measure => simp [intOf]
        · have hk88 : k = 8 := by omega
          have hfin : padB bs (zNeed bs.length) ++ (lastOf8 N).take k = padR bs := by rw [hk88, List.take_of_length_le (by rw [lastOf8_len]; omega), ← Hpr.out]
          rw [hfin]
          have hneg : 7 - (k : Int) = -1 := by omega
          rw [hneg]
          clear hneg hfin hk88 hk hk8 k
          have hpl := padR_len bs
          have hp64 := padR_64 bs
          have hzn : zNeed bs.length < 64 := Nat.mod_lt _ (by decide)
          have hps : (⟨(padR bs).toArray⟩ : ByteArray).size = (padR bs).length := by simp [ByteArray.size]
          have hple : (padR bs).length ≤ 1000200 := by omega
          have Hout : RowKit.Hid (∀ p, padR bs = p → ∀ (v : Value) (w' : World), (∃ ao c, v = .slice ao (p.length / 4) c ∧ Ent (row 23 1 (.slice ao (p.length / 4) c) (p.length / 4) ((wordsOf p (p.length / 4)).map u32v) :: l) w') → (∃ ao c, v = .slice ao ((padR bs).length / 4) c ∧ Ent (row 23 1 (.slice ao ((padR bs).length / 4) c) ((padR bs).length / 4) ((wordsOf (padR bs) ((padR bs).length / 4)).map u32v) :: l) w')) := SL.hid (fun p hp v w' h => by rw [hp]; exact h)
          clear hpl
          generalize hp : padR bs = p at hp64 hps hple ⊢
          have Hp := SL.hid hp
          have Hp64 := SL.hid hp64
          have Hps := SL.hid hps
          have hpsB := hps
          clear hp hp64 hzn
          go_wp2_with (first | go_skip)
          go_loopw [5, 6] (fun s i wr => BRel p l s i wr) (fun _ i _ => p.length - (intOf i).toNat)
          case atStart => exact ⟨0, none, 0, by omega, rfl, rfl, hE.nil _ _⟩
          case round =>
            clear hE
            obtain ⟨k, ao, c, hk, rfl, rfl, hE⟩ := hrel
            by_cases hlt : 4 * k < p.length
            · have h4 : 4 * (k + 1) ≤ p.length := by have := Hp64.out; omega
              have hw : wordsOf p (k + 1) = wordsOf p k ++ [wordOf p k] := by unfold wordsOf; rw [List.range_succ, List.map_append]; rfl
              have hwd : wordOf p k = (p.getD (4 * k) 0).toNat * 16777216 + (p.getD (4 * k + 1) 0).toNat * 65536 + (p.getD (4 * k + 2) 0).toNat * 256 + (p.getD (4 * k + 3) 0).toNat := rfl
              have ix0 := fun w => run_index_str (P := Tryd.prog) Tryd.underlying9 (bs := p) (k := 4 * k) (by omega) w
              have ix1 := fun w => run_index_str (P := Tryd.prog) Tryd.underlying9 (bs := p) (k := 4 * k + 1) (by omega) w
              have ix2 := fun w => run_index_str (P := Tryd.prog) Tryd.underlying9 (bs := p) (k := 4 * k + 2) (by omega) w
              have ix3 := fun w => run_index_str (P := Tryd.prog) Tryd.underlying9 (bs := p) (k := 4 * k + 3) (by omega) w
              have m1 : IntKind.i64.wrap (((4 * k : Nat) : Int) + 1) = ((4 * k + 1 : Nat) : Int) := by rw [wrap_small (by omega)]; omega
              have m2 : IntKind.i64.wrap (((4 * k : Nat) : Int) + 2) = ((4 * k + 2 : Nat) : Int) := by rw [wrap_small (by omega)]; omega
              have m3 : IntKind.i64.wrap (((4 * k : Nat) : Int) + 3) = ((4 * k + 3 : Nat) : Int) := by rw [wrap_small (by omega)]; omega
              have m4 : ((4 * k : Nat) : Int) + 4 = ((4 * (k + 1) : Nat) : Int) := by omega
              have hlt2 : ((4 * k : Nat) : Int) < (p.length : Int) := by omega
              have hk6 : 4 * k ≤ 1000200 := by omega
              obtain ⟨y0, y1, y2, y3, y4, e0, e1, e2, e3, e4, e5⟩ := word_sum _ _ _ _ _ hwd
              have v0 := u8_wide (p.getD (4 * k) 0)
              have v1 := u8_wide (p.getD (4 * k + 1) 0)
              have v2 := u8_wide (p.getD (4 * k + 2) 0)
              have v3 := u8_wide (p.getD (4 * k + 3) 0)
              clear hwd
              generalize p.getD (4 * k) 0 = x0 at *
              generalize p.getD (4 * k + 1) 0 = x1 at *
              generalize p.getD (4 * k + 2) 0 = x2 at *
              generalize p.getD (4 * k + 3) 0 = x3 at *
              generalize 4 * k + 1 = q1 at *
              generalize 4 * k + 2 = q2 at *
              generalize 4 * k + 3 = q3 at *
              have Hm4 := SL.hid m4
              have Hw := SL.hid hw
              clear m4 hw hps
              generalize wordOf p k = wd at *
              generalize 4 * k = q0 at *
              generalize hP : (⟨p.toArray⟩ : ByteArray) = P at *
              clear hP
              go_wp2_with (first | go_skip)
              refine wp_region_held_drew (S := (fun _ => True)) (by kernel_rfl) trivial (fun hS => ?_)
              refine wpAnyH_take (i := 0) (oi := { dst := some 38, op := Go.Op.move (Go.Operand.tmp 5), type := 50, pos := "ref.go:110", after := #[], guard := none }) (v := ?_) rfl (by kernel_rfl) (by kernel_rfl) (by kernel_rfl) (fun _ _ _ h => h) (Or.inl ⟨by rfl, ?_⟩) hS ?_
              rotate_left
              · (intro w hSw; (try dsimp only at hSw); go_simp; (try with_reducible rfl))
              try simp only [Act.put, List.setIfInBounds_toArray, List.set_cons_zero, List.set_cons_succ]
              refine wpAnyH_take (i := 1) (oi := { dst := some 39, op := Go.Op.move (Go.Operand.tmp 0), type := 9, pos := "ref.go:110", after := #[], guard := none }) (v := ?_) rfl (by kernel_rfl) (by kernel_rfl) (by kernel_rfl) (fun _ _ _ h => h) (Or.inl ⟨by rfl, ?_⟩) hS ?_
              rotate_left
              · (intro w hSw; (try dsimp only at hSw); go_simp; (try with_reducible rfl))
              try simp only [Act.put, List.setIfInBounds_toArray, List.set_cons_zero, List.set_cons_succ]
              refine wpAnyH_take (i := 2) (oi := { dst := some 40, op := Go.Op.move (Go.Operand.tmp 6), type := 3, pos := "ref.go:110", after := #[], guard := none }) (v := ?_) rfl (by kernel_rfl) (by kernel_rfl) (by kernel_rfl) (fun _ _ _ h => h) (Or.inl ⟨by rfl, ?_⟩) hS ?_
              rotate_left
              · (intro w hSw; (try dsimp only at hSw); go_simp; (try with_reducible rfl))
              try simp only [Act.put, List.setIfInBounds_toArray, List.set_cons_zero, List.set_cons_succ]
              refine wpAnyH_take (i := 3) (oi := { dst := some 41, op := Go.Op.index 9 (Go.Operand.tmp 39) (Go.Operand.tmp 40), type := 5, pos := "ref.go:110", after := #[{ on := 1, ground := Go.Ground.data }, { on := 2, ground := Go.Ground.data }], guard := none }) (v := ?_) rfl (by kernel_rfl) (by kernel_rfl) (by kernel_rfl) (fun _ _ _ h => h) (Or.inl ⟨by rfl, ?_⟩) hS ?_
              rotate_left
              · (intro w hSw; (try dsimp only at hSw); go_simp; (try with_reducible rfl))
              try simp only [Act.put, List.setIfInBounds_toArray, List.set_cons_zero, List.set_cons_succ]
              refine wpAnyH_take (i := 4) (oi := { dst := some 42, op := Go.Op.convert 5 23 (Go.Operand.tmp 41), type := 23, pos := "ref.go:110", after := #[{ on := 3, ground := Go.Ground.data }], guard := none }) (v := ?_) rfl (by kernel_rfl) (by kernel_rfl) (by kernel_rfl) (fun _ _ _ h => h) (Or.inl ⟨by rfl, ?_⟩) hS ?_
              rotate_left
              · (intro w hSw; (try dsimp only at hSw); go_simp; (try with_reducible rfl))
              try simp only [Act.put, List.setIfInBounds_toArray, List.set_cons_zero, List.set_cons_succ]
              refine wpAnyH_take (i := 5) (oi := { dst := some 43, op := Go.Op.binOp Go.BinOp.mul 23 (Go.Operand.tmp 42) (Go.Operand.const (Go.Value.int Go.IntKind.u32 16777216)) 23, type := 23, pos := "ref.go:110", after := #[{ on := 4, ground := Go.Ground.data }], guard := none }) (v := ?_) rfl (by kernel_rfl) (by kernel_rfl) (by kernel_rfl) (fun _ _ _ h => h) (Or.inl ⟨by rfl, ?_⟩) hS ?_
              rotate_left
              · (intro w hSw; (try dsimp only at hSw); go_simp; (try with_reducible rfl))
              try simp only [Act.put, List.setIfInBounds_toArray, List.set_cons_zero, List.set_cons_succ]
              refine wpAnyH_take (i := 6) (oi := { dst := some 44, op := Go.Op.move (Go.Operand.tmp 0), type := 9, pos := "ref.go:110", after := #[], guard := none }) (v := ?_) rfl (by kernel_rfl) (by kernel_rfl) (by kernel_rfl) (fun _ _ _ h => h) (Or.inl ⟨by rfl, ?_⟩) hS ?_
              rotate_left
              · (intro w hSw; (try dsimp only at hSw); go_simp; (try with_reducible rfl))
              try simp only [Act.put, List.setIfInBounds_toArray, List.set_cons_zero, List.set_cons_succ]
              refine wpAnyH_take (i := 7) (oi := { dst := some 45, op := Go.Op.move (Go.Operand.tmp 6), type := 3, pos := "ref.go:110", after := #[], guard := none }) (v := ?_) rfl (by kernel_rfl) (by kernel_rfl) (by kernel_rfl) (fun _ _ _ h => h) (Or.inl ⟨by rfl, ?_⟩) hS ?_
              rotate_left
              · (intro w hSw; (try dsimp only at hSw); go_simp; (try with_reducible rfl))
              try simp only [Act.put, List.setIfInBounds_toArray, List.set_cons_zero, List.set_cons_succ]
              refine wpAnyH_take (i := 8) (oi := { dst := some 46, op := Go.Op.binOp Go.BinOp.add 3 (Go.Operand.tmp 45) (Go.Operand.const (Go.Value.int Go.IntKind.i64 1)) 3, type := 3, pos := "ref.go:110", after := #[{ on := 7, ground := Go.Ground.data }], guard := none }) (v := ?_) rfl (by kernel_rfl) (by kernel_rfl) (by kernel_rfl) (fun _ _ _ h => h) (Or.inl ⟨by rfl, ?_⟩) hS ?_
              rotate_left
              · (intro w hSw; (try dsimp only at hSw); go_simp; (try with_reducible rfl))
              try simp only [Act.put, List.setIfInBounds_toArray, List.set_cons_zero, List.set_cons_succ]
              refine wpAnyH_take (i := 9) (oi := { dst := some 47, op := Go.Op.index 9 (Go.Operand.tmp 44) (Go.Operand.tmp 46), type := 5, pos := "ref.go:110", after := #[{ on := 6, ground := Go.Ground.data }, { on := 8, ground := Go.Ground.data }], guard := none }) (v := ?_) rfl (by kernel_rfl) (by kernel_rfl) (by kernel_rfl) (fun _ _ _ h => h) (Or.inl ⟨by rfl, ?_⟩) hS ?_
              rotate_left
              · (intro w hSw; (try dsimp only at hSw); go_simp; (try with_reducible rfl))
              try simp only [Act.put, List.setIfInBounds_toArray, List.set_cons_zero, List.set_cons_succ]
              refine wpAnyH_take (i := 10) (oi := { dst := some 48, op := Go.Op.convert 5 23 (Go.Operand.tmp 47), type := 23, pos := "ref.go:110", after := #[{ on := 9, ground := Go.Ground.data }], guard := none }) (v := ?_) rfl (by kernel_rfl) (by kernel_rfl) (by kernel_rfl) (fun _ _ _ h => h) (Or.inl ⟨by rfl, ?_⟩) hS ?_
              rotate_left
              · (intro w hSw; (try dsimp only at hSw); go_simp; (try with_reducible rfl))
              try simp only [Act.put, List.setIfInBounds_toArray, List.set_cons_zero, List.set_cons_succ]
              refine wpAnyH_take (i := 11) (oi := { dst := some 49, op := Go.Op.binOp Go.BinOp.mul 23 (Go.Operand.tmp 48) (Go.Operand.const (Go.Value.int Go.IntKind.u32 65536)) 23, type := 23, pos := "ref.go:110", after := #[{ on := 10, ground := Go.Ground.data }], guard := none }) (v := ?_) rfl (by kernel_rfl) (by kernel_rfl) (by kernel_rfl) (fun _ _ _ h => h) (Or.inl ⟨by rfl, ?_⟩) hS ?_
              rotate_left
              · (intro w hSw; (try dsimp only at hSw); go_simp; (try with_reducible rfl))
              try simp only [Act.put, List.setIfInBounds_toArray, List.set_cons_zero, List.set_cons_succ]
              refine wpAnyH_take (i := 12) (oi := { dst := some 50, op := Go.Op.binOp Go.BinOp.add 23 (Go.Operand.tmp 43) (Go.Operand.tmp 49) 23, type := 23, pos := "ref.go:110", after := #[{ on := 5, ground := Go.Ground.data }, { on := 11, ground := Go.Ground.data }], guard := none }) (v := ?_) rfl (by kernel_rfl) (by kernel_rfl) (by kernel_rfl) (fun _ _ _ h => h) (Or.inl ⟨by rfl, ?_⟩) hS ?_
              rotate_left
              · (intro w hSw; (try dsimp only at hSw); go_simp; (try with_reducible rfl))
              try simp only [Act.put, List.setIfInBounds_toArray, List.set_cons_zero, List.set_cons_succ]
              refine wpAnyH_take (i := 13) (oi := { dst := some 51, op := Go.Op.move (Go.Operand.tmp 0), type := 9, pos := "ref.go:110", after := #[], guard := none }) (v := ?_) rfl (by kernel_rfl) (by kernel_rfl) (by kernel_rfl) (fun _ _ _ h => h) (Or.inl ⟨by rfl, ?_⟩) hS ?_
              rotate_left
              · (intro w hSw; (try dsimp only at hSw); go_simp; (try with_reducible rfl))
              try simp only [Act.put, List.setIfInBounds_toArray, List.set_cons_zero, List.set_cons_succ]
              refine wpAnyH_take (i := 14) (oi := { dst := some 52, op := Go.Op.move (Go.Operand.tmp 6), type := 3, pos := "ref.go:110", after := #[], guard := none }) (v := ?_) rfl (by kernel_rfl) (by kernel_rfl) (by kernel_rfl) (fun _ _ _ h => h) (Or.inl ⟨by rfl, ?_⟩) hS ?_
              rotate_left
              · (intro w hSw; (try dsimp only at hSw); go_simp; (try with_reducible rfl))
              try simp only [Act.put, List.setIfInBounds_toArray, List.set_cons_zero, List.set_cons_succ]
              refine wpAnyH_take (i := 15) (oi := { dst := some 53, op := Go.Op.binOp Go.BinOp.add 3 (Go.Operand.tmp 52) (Go.Operand.const (Go.Value.int Go.IntKind.i64 2)) 3, type := 3, pos := "ref.go:110", after := #[{ on := 14, ground := Go.Ground.data }], guard := none }) (v := ?_) rfl (by kernel_rfl) (by kernel_rfl) (by kernel_rfl) (fun _ _ _ h => h) (Or.inl ⟨by rfl, ?_⟩) hS ?_
              rotate_left
              · (intro w hSw; (try dsimp only at hSw); go_simp; (try with_reducible rfl))
              try simp only [Act.put, List.setIfInBounds_toArray, List.set_cons_zero, List.set_cons_succ]
              refine wpAnyH_take (i := 16) (oi := { dst := some 54, op := Go.Op.index 9 (Go.Operand.tmp 51) (Go.Operand.tmp 53), type := 5, pos := "ref.go:110", after := #[{ on := 13, ground := Go.Ground.data }, { on := 15, ground := Go.Ground.data }], guard := none }) (v := ?_) rfl (by kernel_rfl) (by kernel_rfl) (by kernel_rfl) (fun _ _ _ h => h) (Or.inl ⟨by rfl, ?_⟩) hS ?_
              rotate_left
              · (intro w hSw; (try dsimp only at hSw); go_simp; (try with_reducible rfl))
              try simp only [Act.put, List.setIfInBounds_toArray, List.set_cons_zero, List.set_cons_succ]
              refine wpAnyH_take (i := 17) (oi := { dst := some 55, op := Go.Op.convert 5 23 (Go.Operand.tmp 54), type := 23, pos := "ref.go:110", after := #[{ on := 16, ground := Go.Ground.data }], guard := none }) (v := ?_) rfl (by kernel_rfl) (by kernel_rfl) (by kernel_rfl) (fun _ _ _ h => h) (Or.inl ⟨by rfl, ?_⟩) hS ?_
              rotate_left
              · (intro w hSw; (try dsimp only at hSw); go_simp; (try with_reducible rfl))
              try simp only [Act.put, List.setIfInBounds_toArray, List.set_cons_zero, List.set_cons_succ]
              refine wpAnyH_take (i := 18) (oi := { dst := some 56, op := Go.Op.binOp Go.BinOp.mul 23 (Go.Operand.tmp 55) (Go.Operand.const (Go.Value.int Go.IntKind.u32 256)) 23, type := 23, pos := "ref.go:110", after := #[{ on := 17, ground := Go.Ground.data }], guard := none }) (v := ?_) rfl (by kernel_rfl) (by kernel_rfl) (by kernel_rfl) (fun _ _ _ h => h) (Or.inl ⟨by rfl, ?_⟩) hS ?_
              rotate_left
              · (intro w hSw; (try dsimp only at hSw); go_simp; (try with_reducible rfl))
              try simp only [Act.put, List.setIfInBounds_toArray, List.set_cons_zero, List.set_cons_succ]
              refine wpAnyH_take (i := 19) (oi := { dst := some 57, op := Go.Op.binOp Go.BinOp.add 23 (Go.Operand.tmp 50) (Go.Operand.tmp 56) 23, type := 23, pos := "ref.go:110", after := #[{ on := 12, ground := Go.Ground.data }, { on := 18, ground := Go.Ground.data }], guard := none }) (v := ?_) rfl (by kernel_rfl) (by kernel_rfl) (by kernel_rfl) (fun _ _ _ h => h) (Or.inl ⟨by rfl, ?_⟩) hS ?_
              rotate_left
              · (intro w hSw; (try dsimp only at hSw); go_simp; (try with_reducible rfl))
              try simp only [Act.put, List.setIfInBounds_toArray, List.set_cons_zero, List.set_cons_succ]
              refine wpAnyH_take (i := 20) (oi := { dst := some 58, op := Go.Op.move (Go.Operand.tmp 0), type := 9, pos := "ref.go:110", after := #[], guard := none }) (v := ?_) rfl (by kernel_rfl) (by kernel_rfl) (by kernel_rfl) (fun _ _ _ h => h) (Or.inl ⟨by rfl, ?_⟩) hS ?_
              rotate_left
              · (intro w hSw; (try dsimp only at hSw); go_simp; (try with_reducible rfl))
              try simp only [Act.put, List.setIfInBounds_toArray, List.set_cons_zero, List.set_cons_succ]
              refine wpAnyH_take (i := 21) (oi := { dst := some 59, op := Go.Op.move (Go.Operand.tmp 6), type := 3, pos := "ref.go:110", after := #[], guard := none }) (v := ?_) rfl (by kernel_rfl) (by kernel_rfl) (by kernel_rfl) (fun _ _ _ h => h) (Or.inl ⟨by rfl, ?_⟩) hS ?_
              rotate_left
              · (intro w hSw; (try dsimp only at hSw); go_simp; (try with_reducible rfl))
              try simp only [Act.put, List.setIfInBounds_toArray, List.set_cons_zero, List.set_cons_succ]
              refine wpAnyH_take (i := 22) (oi := { dst := some 60, op := Go.Op.binOp Go.BinOp.add 3 (Go.Operand.tmp 59) (Go.Operand.const (Go.Value.int Go.IntKind.i64 3)) 3, type := 3, pos := "ref.go:110", after := #[{ on := 21, ground := Go.Ground.data }], guard := none }) (v := ?_) rfl (by kernel_rfl) (by kernel_rfl) (by kernel_rfl) (fun _ _ _ h => h) (Or.inl ⟨by rfl, ?_⟩) hS ?_
              rotate_left
              · (intro w hSw; (try dsimp only at hSw); go_simp; (try with_reducible rfl))
              try simp only [Act.put, List.setIfInBounds_toArray, List.set_cons_zero, List.set_cons_succ]
              refine wpAnyH_take (i := 23) (oi := { dst := some 61, op := Go.Op.index 9 (Go.Operand.tmp 58) (Go.Operand.tmp 60), type := 5, pos := "ref.go:110", after := #[{ on := 20, ground := Go.Ground.data }, { on := 22, ground := Go.Ground.data }], guard := none }) (v := ?_) rfl (by kernel_rfl) (by kernel_rfl) (by kernel_rfl) (fun _ _ _ h => h) (Or.inl ⟨by rfl, ?_⟩) hS ?_
              rotate_left
              · (intro w hSw; (try dsimp only at hSw); go_simp; (try with_reducible rfl))
              try simp only [Act.put, List.setIfInBounds_toArray, List.set_cons_zero, List.set_cons_succ]
              refine wpAnyH_take (i := 24) (oi := { dst := some 62, op := Go.Op.convert 5 23 (Go.Operand.tmp 61), type := 23, pos := "ref.go:110", after := #[{ on := 23, ground := Go.Ground.data }], guard := none }) (v := ?_) rfl (by kernel_rfl) (by kernel_rfl) (by kernel_rfl) (fun _ _ _ h => h) (Or.inl ⟨by rfl, ?_⟩) hS ?_
              rotate_left
              · (intro w hSw; (try dsimp only at hSw); go_simp; (try with_reducible rfl))
              try simp only [Act.put, List.setIfInBounds_toArray, List.set_cons_zero, List.set_cons_succ]
              refine wpAnyH_take (i := 25) (oi := { dst := some 63, op := Go.Op.binOp Go.BinOp.add 23 (Go.Operand.tmp 57) (Go.Operand.tmp 62) 23, type := 23, pos := "ref.go:110", after := #[{ on := 19, ground := Go.Ground.data }, { on := 24, ground := Go.Ground.data }], guard := none }) (v := ?_) rfl (by kernel_rfl) (by kernel_rfl) (by kernel_rfl) (fun _ _ _ h => h) (Or.inl ⟨by rfl, ?_⟩) hS ?_
              rotate_left
              · (intro w hSw; (try dsimp only at hSw); go_simp; (try with_reducible rfl))
              try simp only [Act.put, List.setIfInBounds_toArray, List.set_cons_zero, List.set_cons_succ]
              refine wpAnyH_ready (rs := [26]) (by kernel_rfl) (by simp) ?_
              refine (AllReadyH.cons (o := { dst := some 64, op := Go.Op.buildSlice 50 1 #[(0, Go.Operand.tmp 63)], type := 50, pos := "ref.go:110", after := #[{ on := 25, ground := Go.Ground.data }], guard := none }) rfl (fun K hK => ?_) AllReadyH.nil)
              (go_simp; have hE9 := (hE.alloc (.cells #[.int .u32 (wd : Int)] 23)).drew; generalize (wr.alloc (.cells #[.int .u32 (wd : Int)] 23)).drew = w7 at hE9 ⊢)
              refine hK.out _ _ trivial (fun hS => ?_)
              clear hK K
              try simp only [Act.put, List.setIfInBounds_toArray, List.set_cons_zero, List.set_cons_succ]
              refine wpAnyH_ready (rs := [27]) (by kernel_rfl) (by simp) ?_
              refine (AllReadyH.cons (o := { dst := some 65, op := Go.Op.call { callee := Go.Callee.builtin Go.Builtin.append, args := #[Go.Operand.tmp 38, Go.Operand.tmp 64], argTypes := #[50, 50] }, type := 50, pos := "ref.go:110", after := #[{ on := 0, ground := Go.Ground.data }, { on := 26, ground := Go.Ground.data }], guard := none }) rfl (fun K hK => ?_) AllReadyH.nil)
              (refine step_appendG hE9 1 rfl (by rfl) (by rfl) (by rfl) (by rfl) Tryd.underlying50 info32 (by decide) (m := 1) (news := [.int .u32 (wd : Int)]) (reads_pt hE9 0 rfl (off := 0) (fun j u hu => by simpa using hu)) rfl (by simp [Value.oneCell']) (by omega) (by omega) ?_; intro ao' c' w8 hE10; simp only [List.set_cons_succ, List.set_cons_zero] at hE10)
              refine hK.out _ _ trivial (fun hS => ?_)
              clear hK K
              try simp only [Act.put, List.setIfInBounds_toArray, List.set_cons_zero, List.set_cons_succ]
              refine wpAnyH_take (i := 28) (oi := { dst := some 5, op := Go.Op.assign (Go.Operand.tmp 65), type := 50, pos := "ref.go:110", after := #[{ on := 27, ground := Go.Ground.data }, { on := 27, ground := Go.Ground.chain }, { on := 0, ground := Go.Ground.phase }, { on := 1, ground := Go.Ground.phase }, { on := 2, ground := Go.Ground.phase }, { on := 3, ground := Go.Ground.phase }, { on := 4, ground := Go.Ground.phase }, { on := 5, ground := Go.Ground.phase }, { on := 6, ground := Go.Ground.phase }, { on := 7, ground := Go.Ground.phase }, { on := 8, ground := Go.Ground.phase }, { on := 9, ground := Go.Ground.phase }, { on := 10, ground := Go.Ground.phase }, { on := 11, ground := Go.Ground.phase }, { on := 12, ground := Go.Ground.phase }, { on := 13, ground := Go.Ground.phase }, { on := 14, ground := Go.Ground.phase }, { on := 15, ground := Go.Ground.phase }, { on := 16, ground := Go.Ground.phase }, { on := 17, ground := Go.Ground.phase }, { on := 18, ground := Go.Ground.phase }, { on := 19, ground := Go.Ground.phase }, { on := 20, ground := Go.Ground.phase }, { on := 21, ground := Go.Ground.phase }, { on := 22, ground := Go.Ground.phase }, { on := 23, ground := Go.Ground.phase }, { on := 24, ground := Go.Ground.phase }, { on := 25, ground := Go.Ground.phase }, { on := 26, ground := Go.Ground.phase }, { on := 27, ground := Go.Ground.phase }], guard := none }) (v := ?_) rfl (by kernel_rfl) (by kernel_rfl) (by kernel_rfl) (fun _ _ _ h => h) (Or.inl ⟨by rfl, ?_⟩) hS ?_
              rotate_left
              · (intro w hSw; (try dsimp only at hSw); go_simp; (try with_reducible rfl))
              try simp only [Act.put, List.setIfInBounds_toArray, List.set_cons_zero, List.set_cons_succ]
              refine wpAnyH_done (by kernel_rfl) ?_ _
              clear ix0 ix1 ix2 ix3 m1 m2 m3 e0 e1 e2 e3 e4 e5 v0 v1 v2 v3 hS
              go_wp2_with (first | go_skip)
              go_roundw
              case rel => exact ⟨k + 1, ao', c', h4, by rw [Hm4.out], rfl, by rw [Hw.out, List.map_append]; exact hE10.tail⟩
              case measure => simp [intOf]; omega
            · have hk4 : p.length / 4 = k := by omega
              have hneg : ¬ ((4 * k : Nat) : Int) < (p.length : Int) := by omega
              generalize 4 * k = q0 at *
              have Hk4 := SL.hid hk4
              have hpsC := Hps.out
              generalize hP : (⟨p.toArray⟩ : ByteArray) = P at *
              clear hP hk4
              go_wp2_with (first | go_skip)
              go_ret
              exact ⟨_, rfl, Hout.out p Hp.out _ _ ⟨ao, c, by rw [Hk4.out]; rfl, by rw [Hk4.out]; exact hE⟩⟩
end Go.Proofs.YtpchnmcofkffiaaDoor
