/-
  The document's own hash, by a table: the walk of its function.
-/
import Derived.Test.YtpchnmcofkffiaaDoorRp1
namespace Go.Proofs.YtpchnmcofkffiaaDoor
open Go.RowKit Go.SL

/-- a table, whatever its words at first -/
def tabH (v : W8) : List Nat := kTab ++ v.list
theorem tabH_len (v : W8) : (tabH v).length = 72 := rfl
theorem tabH_k (v : W8) {i : Nat} (h : i < 64) : (tabH v).getD i 0 = kTab.getD i 0 := by
  unfold tabH
  rw [List.getD_eq_getElem?_getD, List.getD_eq_getElem?_getD, List.getElem?_append_left h]

theorem words_at {p : List UInt8} {n q : Nat} (h : q < n) : ((wordsOf p n).map u32v)[q]? = some (.int .u32 ((wordOf p q : Nat) : Int)) := by
  simp [wordsOf, h, u32v]
theorem tab_cells {l : List HProp} {w : World} {b : Nat} {T : TypeId} {u : W8} (hE : Ent l w) (i : Nat) (hi : l[i]? = some (u32c b T (tabH u))) :
    w.cell? ⟨b, 64, none⟩ = some (.int .u32 (u.a : Int)) ∧ w.cell? ⟨b, 65, none⟩ = some (.int .u32 (u.b : Int)) ∧ w.cell? ⟨b, 66, none⟩ = some (.int .u32 (u.c : Int)) ∧ w.cell? ⟨b, 67, none⟩ = some (.int .u32 (u.d : Int)) ∧
    w.cell? ⟨b, 68, none⟩ = some (.int .u32 (u.e : Int)) ∧ w.cell? ⟨b, 69, none⟩ = some (.int .u32 (u.f : Int)) ∧ w.cell? ⟨b, 70, none⟩ = some (.int .u32 (u.g : Int)) ∧ w.cell? ⟨b, 71, none⟩ = some (.int .u32 (u.h : Int)) :=
  ⟨hE.cell i hi 64, hE.cell i hi 65, hE.cell i hi 66, hE.cell i hi 67, hE.cell i hi 68, hE.cell i hi 69, hE.cell i hi 70, hE.cell i hi 71⟩
theorem sum_next (a b c d : Nat) : IntKind.u32.wrap (IntKind.u32.wrap (IntKind.u32.wrap ((a : Int) + (b : Int)) + (c : Int)) + (d : Int)) = (((a + (b + c + d)) % 4294967296 : Nat) : Int) := by
  simp only [IntKind.wrap_u32']
  omega

theorem tab_get (v u : W8) {k : Nat} (h : k < 8) : (kTab ++ mix v u k).getD (64 + k) 0 = v.list.getD k 0 := by
  rw [← mix_get v u h, List.getD_eq_getElem?_getD, List.getD_eq_getElem?_getD, List.getElem?_append_right (show kTab.length ≤ 64 + k by show 64 ≤ 64 + k; omega), show 64 + k - kTab.length = k by show 64 + k - 64 = k; omega]
theorem tab_set (v u : W8) {k : Nat} (h : k < 8) : (kTab ++ mix v u k).set (64 + k) ((v.list.getD k 0 + u.list.getD k 0) % 4294967296) = kTab ++ mix v u (k + 1) := by
  rw [List.set_append_right _ _ (show kTab.length ≤ 64 + k by show 64 ≤ 64 + k; omega), show 64 + k - kTab.length = k by show 64 + k - 64 = k; omega, mix_set v u h]
theorem tab_len (v u : W8) {k : Nat} (h : k < 8) : (kTab ++ mix v u k).length = 72 := by
  rw [List.length_append, mix_len v u h]; rfl
theorem tabH_get (v : W8) {k : Nat} (h : k < 8) : (tabH v).getD (64 + k) 0 = v.list.getD k 0 := by
  unfold tabH
  rw [List.getD_eq_getElem?_getD, List.getD_eq_getElem?_getD, List.getElem?_append_right (show kTab.length ≤ 64 + k by show 64 ≤ 64 + k; omega), show 64 + k - kTab.length = k by show 64 + k - 64 = k; omega]

def AtRel (p : List UInt8) (bt : Nat) (l : List HProp) (i : Value) (wr : World) : Prop :=
  ∃ j : Nat, 64 * j ≤ p.length ∧ i = .int .i64 ((16 * j : Nat) : Int) ∧ Ent (u32c bt 45 (tabH (eatAll hFirst p j)) :: l) wr
def WRel (bs : List UInt8) (bw : Nat) (l : List HProp) (i : Value) (wr : World) : Prop :=
  ∃ k : Nat, k ≤ 64 ∧ i = .int .i64 k ∧ Ent (u32c bw 43 (wst bs k) :: l) wr
def VRel (bs : List UInt8) (v : W8) (L : List HProp) (a b c d e f g h i : Value) (wr : World) : Prop :=
  ∃ (k : Nat) (u : W8), k ≤ 64 ∧ i = .int .i64 k ∧ u = (rounds bs v k).1 ∧ a = .int .u32 (u.a : Int) ∧ b = .int .u32 (u.b : Int) ∧ c = .int .u32 (u.c : Int) ∧ d = .int .u32 (u.d : Int) ∧ e = .int .u32 (u.e : Int) ∧ f = .int .u32 (u.f : Int) ∧ g = .int .u32 (u.g : Int) ∧ h = .int .u32 (u.h : Int) ∧ Ent L wr
theorem rounds_next (bs : List UInt8) (v : W8) (k : Nat) : (rounds bs v (k + 1)).1 = rnd (rounds bs v k).1 (kTab.getD k 0) (nextW bs k) := by
  have h := rounds_is bs v k
  show rnd (rounds bs v k).1 (kTab.getD k 0) ((ringAt (rounds bs v k).2 k).getD (k % 16) 0) = _
  rw [show (rounds bs v k).2 = ringSeq bs k by rw [h]]
  rfl
def HRel (v u : W8) (bt : Nat) (l : List HProp) (i : Value) (wr : World) : Prop :=
  ∃ k : Nat, k ≤ 8 ∧ i = .int .i64 k ∧ Ent (u32c bt 45 (kTab ++ mix v u k) :: l) wr
def ORel (v : W8) (cs : List Value) (b : Nat) (l : List HProp) (i : Value) (wr : World) : Prop :=
  ∃ k : Nat, k ≤ 32 ∧ i = .int .i64 k ∧ Ent (pt b (.cells (ostate v cs k).toArray 32 (0, 0)) :: l) wr

set_option maxRecDepth 100000 in
set_option maxHeartbeats 2000000 in
theorem With_any {l : List HProp} {w : World} {bs : List UInt8} (hb : bs.length ≤ 1000000) (hE : Ent l w) :
    Calls Tryd.prog 16 #[tabV (tabH hFirst), .string ⟨bs.toArray⟩] w (Ret fun v w' => v = .agg (bvals (outOf (eatAll hFirst (padR bs) ((padR bs).length / 64)))).toArray ∧ Ent l w') := by
  have hpl := padR_len bs
  have hp64 := padR_64 bs
  have hzn : zNeed bs.length < 64 := Nat.mod_lt _ (by decide)
  have hple : (padR bs).length ≤ 1000200 := by omega
  have hp9 : 9 ≤ (padR bs).length := by omega
  have HB := SL.hid (fun (w : World) (L : List HProp) (h : Ent L w) => Blocks_any hb h)
  clear hpl hzn
  generalize padR bs = p at *
  have Hp64 := SL.hid hp64
  clear hp64
  go_enter Tryd.func16, Tryd.ntmps16
  go_wp2_with (first
    | go_skip
    | ((with_reducible (show Go.wpList _ _ _ (Go.Oper.mk _ (.box _ _) _ _ _ _ :: _) _ _)); refine wpl_box hE rfl rfl (v := tabV (tabH hFirst)) rfl ?_; clear hE; intro bt w1 hE1; simp only [Value.cells] at hE1)
    | ((with_reducible (show Go.wpList _ _ _ (Go.Oper.mk _ (.alloc _) _ _ _ _ :: _) _ _)); refine wpl_allocN hE1 rfl rfl (n := 32) (by kernel_rfl) ?_; clear hE1; intro br rs w1 hq hE2)
    | (go_at_call 20; have H := HB.out _ _ hE2; refine H.mono ?_; clear H hE2; rintro e w2 ⟨v, rfl, ao, c, rfl, hE3⟩))
  have Hq := SL.hid hq
  obtain ⟨n4, hn4⟩ : ∃ n4, n4 = p.length / 4 := ⟨_, rfl⟩
  rw [← hn4] at hE3 ⊢
  obtain ⟨g, rfl, _, _⟩ := hE3.rowIs 0 rfl (by have := Hp64.out; omega)
  have Hn4 := SL.hid hn4
  have hE4 : Ent (u32c bt 45 (tabH hFirst) :: row 23 1 (.slice (some ⟨g, 0, none⟩) n4 c) n4 ((wordsOf p n4).map u32v) :: pt br (.cells rs.toArray 32 (0, 0)) :: l) w2 := hE3.front 2 rfl
  clear hE3 hq hn4 HB
  go_wp2_with (first | go_skip)
  go_loopw [6] (fun i wr => AtRel p bt (row 23 1 (.slice (some ⟨g, 0, none⟩) n4 c) n4 ((wordsOf p n4).map u32v) :: pt br (.cells rs.toArray 32 (0, 0)) :: l) i wr) (fun i _ => p.length - 4 * (intOf i).toNat)
  case atStart => exact ⟨0, by omega, rfl, hE4⟩
  case round =>
    clear hE4
    obtain ⟨j, hj, rfl, hE⟩ := hrel
    have hvok := eatAll_ok hFirst_ok p j
    by_cases hlt : 64 * j < p.length
    · have h64 : 64 * (j + 1) ≤ p.length := by have := Hp64.out; omega
      have hj16 : 16 * j + 16 ≤ n4 := by rw [Hn4.out]; omega
      have hj17 : 16 * j ≤ 1000200 := by omega
      have hjn : ((16 * j : Nat) : Int) < (n4 : Int) := by omega
      have Hsn := SL.hid (eatAll_snoc j hFirst p)
      have Hwb := SL.hid (fun (i : Nat) (hi : i < 16) => (nextW_low hi).trans (word_block h64 hi))
      have Hj4 : RowKit.Hid (((16 * j : Nat) : Int) + 16 = ((16 * (j + 1) : Nat) : Int)) := SL.hid (by omega)
      have Hjm : RowKit.Hid (p.length - 4 * (16 * (j + 1)) < p.length - 4 * (16 * j)) := SL.hid (by omega)
      generalize (p.drop (64 * j)).take 64 = bj at *
      generalize eatAll hFirst p j = v at *
      generalize hj0 : 16 * j = j0 at *
      have Hj0 := SL.hid hj0
      clear hj0
      go_wp2_with (first
        | go_skip
        | ((with_reducible (show Go.wpList _ _ _ (Go.Oper.mk _ (.alloc _) _ _ _ _ :: _) _ _)); refine wpl_allocL hE rfl rfl (zs := (List.replicate 64 0).map u32v) (size := 64) (bytes := 256) (by kernel_rfl) ?_; clear hE; intro bw w1 hE1))
      go_loopw [8] (fun i wr => WRel bj bw (u32c bt 45 (tabH v) :: row 23 1 (.slice (some ⟨g, 0, none⟩) n4 c) n4 ((wordsOf p n4).map u32v) :: pt br (.cells rs.toArray 32 (0, 0)) :: l) i wr) (fun i _ => 64 - (intOf i).toNat)
      case atStart => exact ⟨0, Nat.zero_le _, rfl, hE1⟩
      case round =>
        clear hE1
        obtain ⟨k, hk, rfl, hE⟩ := hrel
        have Hwl := SL.hid (wst_len bj k)
        by_cases hk64 : k < 64
        · as_aux_lemma =>
          have ik : (k : Int) < 64 := by omega
          have Hnx : RowKit.Hid (wst bj (k + 1) = (wst bj k).set k (nextW bj k)) := SL.hid rfl
          have Hget := SL.hid (wst_get bj k hk)
          have hxl := nextW_lt bj
          have Hxl := SL.hid hxl
          clear hxl
          by_cases hk16 : k < 16
          · have ik16 : (k : Int) < 16 := by omega
            obtain ⟨q, hq⟩ : ∃ q, q = j0 + k := ⟨_, rfl⟩
            have x1 : (j0 : Int) + (k : Int) = (q : Int) := by omega
            have x2 : IntKind.i64.wrap (q : Int) = (q : Int) := wrap_small (by omega)
            have x3 : (q : Int) < (n4 : Int) := by omega
            have c0 := hE.rowCell 2 rfl (words_at (p := p) (n := n4) (q := q) (by omega))
            have ew : wordOf p q = nextW bj k := by rw [Hwb.out k hk16, hq, ← Hj0.out]
            rw [ew] at c0
            clear ew
            generalize nextW bj k = x at *
            clear hq
            go_wp2_with (first
              | go_skip
              | ((with_reducible (show Go.wpList _ _ _ (Go.Oper.mk _ (.store _ _ _) _ _ _ _ :: _) _ _)); refine wpl_set1 hE 0 rfl rfl rfl (off := k) rfl (v := .int .u32 (x : Int)) rfl Tryd.sizeOf23 rfl rfl (by rw [List.length_map, Hwl.out]; omega) ?_; clear hE c0; intro w5 hE; simp only [List.set_cons_zero] at hE; rw [u32_set, ← Hnx.out] at hE))
            go_roundw
            case rel => exact ⟨k + 1, hk64, by simp, hE⟩
            case measure => simp [intOf]; omega
          · have ik16 : ¬ (k : Int) < 16 := by omega
            have hhi := nextW_high (bs := bj) (i := k) (by omega)
            have g15 := Hget.out (k - 15) (by omega)
            have g2 := Hget.out (k - 2) (by omega)
            have g7 := Hget.out (k - 7) (by omega)
            have g16 := Hget.out (k - 16) (by omega)
            have l15 := Hxl.out (k - 15)
            have l2 := Hxl.out (k - 2)
            have m15 : IntKind.i64.wrap ((k : Int) - 15) = ((k - 15 : Nat) : Int) := by rw [wrap_small (by omega)]; omega
            have m2 : IntKind.i64.wrap ((k : Int) - 2) = ((k - 2 : Nat) : Int) := by rw [wrap_small (by omega)]; omega
            have m7 : IntKind.i64.wrap ((k : Int) - 7) = ((k - 7 : Nat) : Int) := by rw [wrap_small (by omega)]; omega
            have m16 : IntKind.i64.wrap ((k : Int) - 16) = ((k - 16 : Nat) : Int) := by rw [wrap_small (by omega)]; omega
            have c15 := u32_at hE.drew 0 rfl (k := k - 15) (by rw [Hwl.out]; omega)
            have b15 : ((k - 15 : Nat) : Int) < 64 := by omega
            have b2 : ((k - 2 : Nat) : Int) < 64 := by omega
            have b7 : ((k - 7 : Nat) : Int) < 64 := by omega
            have b16 : ((k - 16 : Nat) : Int) < 64 := by omega
            have N7 := SL.hid (show k - 7 ≠ k by omega)
            have N16 := SL.hid (show k - 16 ≠ k by omega)
            have L2 := SL.hid (show k - 2 < 64 by omega)
            have L7 := SL.hid (show k - 7 < 64 by omega)
            have L16 := SL.hid (show k - 16 < 64 by omega)
            have L15 := SL.hid (show k - 15 < 64 by omega)
            rw [g15] at c15
            generalize k - 15 = p15 at *
            generalize k - 2 = p2 at *
            generalize k - 7 = p7 at *
            generalize k - 16 = p16 at *
            generalize nextW bj p15 = x at *
            generalize nextW bj p2 = y at *
            generalize nextW bj p7 = z at *
            generalize nextW bj p16 = o at *
            have Hhi := SL.hid hhi
            have G2 := SL.hid g2
            have G7 := SL.hid g7
            have G16 := SL.hid g16
            have Hget15 := SL.hid g15
            clear g15 g2 g7 g16 hhi
            have e0 := ls0_int l15
            have e1 := ls1_int l2
            have e2 := sum_next o (ls0 x) z (ls1 y)
            go_wp2_with (first | go_skip)
            have hED := hE.drew
            refine wp_region_held_drew (S := (fun w' => w'.cell? ⟨bw, p15, none⟩ = some (.int .u32 (x : Int)))) (by kernel_rfl) c15 (fun hS => ?_)
            refine wpAnyH_take (i := 0) (oi := { dst := some 48, op := Go.Op.move (Go.Operand.tmp 8), type := 3, pos := "ref.go:125", after := #[], guard := none }) (v := ?_) rfl (by kernel_rfl) (by kernel_rfl) (by kernel_rfl) (fun _ _ _ h => h) (Or.inl ⟨by rfl, ?_⟩) hS ?_
            rotate_left
            · (intro w hSw; (try dsimp only at hSw); go_simp; (try with_reducible rfl))
            try simp only [Act.put, List.setIfInBounds_toArray, List.set_cons_zero, List.set_cons_succ]
            refine wpAnyH_take (i := 1) (oi := { dst := some 49, op := Go.Op.binOp Go.BinOp.sub 3 (Go.Operand.tmp 48) (Go.Operand.const (Go.Value.int Go.IntKind.i64 15)) 3, type := 3, pos := "ref.go:125", after := #[{ on := 0, ground := Go.Ground.data }], guard := none }) (v := ?_) rfl (by kernel_rfl) (by kernel_rfl) (by kernel_rfl) (fun _ _ _ h => h) (Or.inl ⟨by rfl, ?_⟩) hS ?_
            rotate_left
            · (intro w hSw; (try dsimp only at hSw); go_simp; (try with_reducible rfl))
            try simp only [Act.put, List.setIfInBounds_toArray, List.set_cons_zero, List.set_cons_succ]
            refine wpAnyH_take (i := 2) (oi := { dst := some 50, op := Go.Op.indexAddr 43 (Go.Operand.tmp 7) (Go.Operand.tmp 49), type := 0, pos := "ref.go:125", after := #[{ on := 1, ground := Go.Ground.data }], guard := none }) (v := ?_) rfl (by kernel_rfl) (by kernel_rfl) (by kernel_rfl) (fun _ _ _ h => h) (Or.inl ⟨by rfl, ?_⟩) hS ?_
            rotate_left
            · (intro w hSw; (try dsimp only at hSw); go_simp; (try with_reducible rfl))
            try simp only [Act.put, List.setIfInBounds_toArray, List.set_cons_zero, List.set_cons_succ]
            refine wpAnyH_take (i := 3) (oi := { dst := some 51, op := Go.Op.load 23 (Go.Operand.tmp 50), type := 23, pos := "ref.go:125", after := #[{ on := 2, ground := Go.Ground.data }], guard := none }) (v := ?_) rfl (by kernel_rfl) (by kernel_rfl) (by kernel_rfl) (fun _ _ _ h => h) (Or.inl ⟨by rfl, ?_⟩) hS ?_
            rotate_left
            · (intro w hSw; (try dsimp only at hSw); go_simp; (try with_reducible rfl))
            try simp only [Act.put, List.setIfInBounds_toArray, List.set_cons_zero, List.set_cons_succ]
            refine wpAnyH_take (i := 5) (oi := { dst := some 53, op := Go.Op.move (Go.Operand.tmp 8), type := 3, pos := "ref.go:125", after := #[], guard := none }) (v := ?_) rfl (by kernel_rfl) (by kernel_rfl) (by kernel_rfl) (fun _ _ _ h => h) (Or.inl ⟨by rfl, ?_⟩) hS ?_
            rotate_left
            · (intro w hSw; (try dsimp only at hSw); go_simp; (try with_reducible rfl))
            try simp only [Act.put, List.setIfInBounds_toArray, List.set_cons_zero, List.set_cons_succ]
            refine wpAnyH_take (i := 6) (oi := { dst := some 54, op := Go.Op.binOp Go.BinOp.sub 3 (Go.Operand.tmp 53) (Go.Operand.const (Go.Value.int Go.IntKind.i64 15)) 3, type := 3, pos := "ref.go:125", after := #[{ on := 5, ground := Go.Ground.data }], guard := none }) (v := ?_) rfl (by kernel_rfl) (by kernel_rfl) (by kernel_rfl) (fun _ _ _ h => h) (Or.inl ⟨by rfl, ?_⟩) hS ?_
            rotate_left
            · (intro w hSw; (try dsimp only at hSw); go_simp; (try with_reducible rfl))
            try simp only [Act.put, List.setIfInBounds_toArray, List.set_cons_zero, List.set_cons_succ]
            refine wpAnyH_take (i := 7) (oi := { dst := some 55, op := Go.Op.indexAddr 43 (Go.Operand.tmp 7) (Go.Operand.tmp 54), type := 0, pos := "ref.go:125", after := #[{ on := 6, ground := Go.Ground.data }], guard := none }) (v := ?_) rfl (by kernel_rfl) (by kernel_rfl) (by kernel_rfl) (fun _ _ _ h => h) (Or.inl ⟨by rfl, ?_⟩) hS ?_
            rotate_left
            · (intro w hSw; (try dsimp only at hSw); go_simp; (try with_reducible rfl))
            try simp only [Act.put, List.setIfInBounds_toArray, List.set_cons_zero, List.set_cons_succ]
            refine wpAnyH_take (i := 8) (oi := { dst := some 56, op := Go.Op.load 23 (Go.Operand.tmp 55), type := 23, pos := "ref.go:125", after := #[{ on := 7, ground := Go.Ground.data }], guard := none }) (v := ?_) rfl (by kernel_rfl) (by kernel_rfl) (by kernel_rfl) (fun _ _ _ h => h) (Or.inl ⟨by rfl, ?_⟩) hS ?_
            rotate_left
            · (intro w hSw; (try dsimp only at hSw); go_simp; (try with_reducible rfl))
            try simp only [Act.put, List.setIfInBounds_toArray, List.set_cons_zero, List.set_cons_succ]
            refine wpAnyH_take (i := 11) (oi := { dst := some 59, op := Go.Op.move (Go.Operand.tmp 8), type := 3, pos := "ref.go:125", after := #[], guard := none }) (v := ?_) rfl (by kernel_rfl) (by kernel_rfl) (by kernel_rfl) (fun _ _ _ h => h) (Or.inl ⟨by rfl, ?_⟩) hS ?_
            rotate_left
            · (intro w hSw; (try dsimp only at hSw); go_simp; (try with_reducible rfl))
            try simp only [Act.put, List.setIfInBounds_toArray, List.set_cons_zero, List.set_cons_succ]
            refine wpAnyH_take (i := 12) (oi := { dst := some 60, op := Go.Op.binOp Go.BinOp.sub 3 (Go.Operand.tmp 59) (Go.Operand.const (Go.Value.int Go.IntKind.i64 15)) 3, type := 3, pos := "ref.go:125", after := #[{ on := 11, ground := Go.Ground.data }], guard := none }) (v := ?_) rfl (by kernel_rfl) (by kernel_rfl) (by kernel_rfl) (fun _ _ _ h => h) (Or.inl ⟨by rfl, ?_⟩) hS ?_
            rotate_left
            · (intro w hSw; (try dsimp only at hSw); go_simp; (try with_reducible rfl))
            try simp only [Act.put, List.setIfInBounds_toArray, List.set_cons_zero, List.set_cons_succ]
            refine wpAnyH_take (i := 13) (oi := { dst := some 61, op := Go.Op.indexAddr 43 (Go.Operand.tmp 7) (Go.Operand.tmp 60), type := 0, pos := "ref.go:125", after := #[{ on := 12, ground := Go.Ground.data }], guard := none }) (v := ?_) rfl (by kernel_rfl) (by kernel_rfl) (by kernel_rfl) (fun _ _ _ h => h) (Or.inl ⟨by rfl, ?_⟩) hS ?_
            rotate_left
            · (intro w hSw; (try dsimp only at hSw); go_simp; (try with_reducible rfl))
            try simp only [Act.put, List.setIfInBounds_toArray, List.set_cons_zero, List.set_cons_succ]
            refine wpAnyH_take (i := 14) (oi := { dst := some 62, op := Go.Op.load 23 (Go.Operand.tmp 61), type := 23, pos := "ref.go:125", after := #[{ on := 13, ground := Go.Ground.data }], guard := none }) (v := ?_) rfl (by kernel_rfl) (by kernel_rfl) (by kernel_rfl) (fun _ _ _ h => h) (Or.inl ⟨by rfl, ?_⟩) hS ?_
            rotate_left
            · (intro w hSw; (try dsimp only at hSw); go_simp; (try with_reducible rfl))
            try simp only [Act.put, List.setIfInBounds_toArray, List.set_cons_zero, List.set_cons_succ]
            refine wpAnyH_take (i := 15) (oi := { dst := some 63, op := Go.Op.binOp Go.BinOp.shr 23 (Go.Operand.tmp 62) (Go.Operand.const (Go.Value.int Go.IntKind.u64 3)) 29, type := 23, pos := "ref.go:125", after := #[{ on := 14, ground := Go.Ground.data }], guard := none }) (v := ?_) rfl (by kernel_rfl) (by kernel_rfl) (by kernel_rfl) (fun _ _ _ h => h) (Or.inl ⟨by rfl, ?_⟩) hS ?_
            rotate_left
            · (intro w hSw; (try dsimp only at hSw); go_simp; (try with_reducible rfl))
            try simp only [Act.put, List.setIfInBounds_toArray, List.set_cons_zero, List.set_cons_succ]
            refine wpAnyH_ready (rs := [4]) (by kernel_rfl) (by simp) ?_
            refine (AllReadyH.cons (o := { dst := some 52, op := Go.Op.call { callee := Go.Callee.value (Go.Operand.func 21), args := #[Go.Operand.tmp 51, Go.Operand.const (Go.Value.int Go.IntKind.i64 7)], argTypes := #[23, 3] }, type := 23, pos := "ref.go:125", after := #[{ on := 3, ground := Go.Ground.data }], guard := none }) rfl (fun K hK => ?_) AllReadyH.nil)
            (go_simp; go_at_call 21; refine (rotr_7 x l15 _).mono ?_; rintro e w2 ⟨_, rfl, rfl, hk1⟩; have hE2 := hk1 _ hED; clear hk1)
            refine hK.out _ _ ((u32_at hE2 0 rfl (by rw [Hwl.out]; exact L15.out)).trans (by rw [Hget15.out])) (fun hS => ?_)
            clear hK K
            try simp only [Act.put, List.setIfInBounds_toArray, List.set_cons_zero, List.set_cons_succ]
            refine wpAnyH_ready (rs := [9]) (by kernel_rfl) (by simp) ?_
            refine (AllReadyH.cons (o := { dst := some 57, op := Go.Op.call { callee := Go.Callee.value (Go.Operand.func 21), args := #[Go.Operand.tmp 56, Go.Operand.const (Go.Value.int Go.IntKind.i64 18)], argTypes := #[23, 3] }, type := 23, pos := "ref.go:125", after := #[{ on := 8, ground := Go.Ground.data }, { on := 4, ground := Go.Ground.chain }], guard := none }) rfl (fun K hK => ?_) AllReadyH.nil)
            (go_simp; go_at_call 21; refine (rotr_18 x l15 _).mono ?_; rintro e w3 ⟨_, rfl, rfl, hk1⟩; have hE3 := hk1 _ hE2; clear hk1)
            refine hK.out _ _ ((u32_at hE3 0 rfl (by rw [Hwl.out]; exact L15.out)).trans (by rw [Hget15.out])) (fun hS => ?_)
            clear hK K
            try simp only [Act.put, List.setIfInBounds_toArray, List.set_cons_zero, List.set_cons_succ]
            refine wpAnyH_take (i := 10) (oi := { dst := some 58, op := Go.Op.binOp Go.BinOp.xor 23 (Go.Operand.tmp 52) (Go.Operand.tmp 57) 23, type := 23, pos := "ref.go:125", after := #[{ on := 4, ground := Go.Ground.data }, { on := 9, ground := Go.Ground.data }], guard := none }) (v := ?_) rfl (by kernel_rfl) (by kernel_rfl) (by kernel_rfl) (fun _ _ _ h => h) (Or.inl ⟨by rfl, ?_⟩) hS ?_
            rotate_left
            · (intro w hSw; (try dsimp only at hSw); go_simp; (try with_reducible rfl))
            try simp only [Act.put, List.setIfInBounds_toArray, List.set_cons_zero, List.set_cons_succ]
            refine wpAnyH_take (i := 16) (oi := { dst := some 64, op := Go.Op.binOp Go.BinOp.xor 23 (Go.Operand.tmp 58) (Go.Operand.tmp 63) 23, type := 23, pos := "ref.go:125", after := #[{ on := 10, ground := Go.Ground.data }, { on := 15, ground := Go.Ground.data }], guard := none }) (v := ?_) rfl (by kernel_rfl) (by kernel_rfl) (by kernel_rfl) (fun _ _ _ h => h) (Or.inl ⟨by rfl, ?_⟩) hS ?_
            rotate_left
            · (intro w hSw; (try dsimp only at hSw); go_simp; (try with_reducible rfl))
            try simp only [Act.put, List.setIfInBounds_toArray, List.set_cons_zero, List.set_cons_succ]
            refine wpAnyH_take (i := 17) (oi := { dst := some 9, op := Go.Op.assign (Go.Operand.tmp 64), type := 23, pos := "ref.go:125", after := #[{ on := 16, ground := Go.Ground.data }, { on := 9, ground := Go.Ground.chain }, { on := 0, ground := Go.Ground.phase }, { on := 1, ground := Go.Ground.phase }, { on := 2, ground := Go.Ground.phase }, { on := 3, ground := Go.Ground.phase }, { on := 4, ground := Go.Ground.phase }, { on := 5, ground := Go.Ground.phase }, { on := 6, ground := Go.Ground.phase }, { on := 7, ground := Go.Ground.phase }, { on := 8, ground := Go.Ground.phase }, { on := 9, ground := Go.Ground.phase }, { on := 10, ground := Go.Ground.phase }, { on := 11, ground := Go.Ground.phase }, { on := 12, ground := Go.Ground.phase }, { on := 13, ground := Go.Ground.phase }, { on := 14, ground := Go.Ground.phase }, { on := 15, ground := Go.Ground.phase }, { on := 16, ground := Go.Ground.phase }], guard := none }) (v := ?_) rfl (by kernel_rfl) (by kernel_rfl) (by kernel_rfl) (fun _ _ _ h => h) (Or.inl ⟨by rfl, ?_⟩) hS ?_
            rotate_left
            · (intro w hSw; (try dsimp only at hSw); go_simp; (try with_reducible rfl))
            try simp only [Act.put, List.setIfInBounds_toArray, List.set_cons_zero, List.set_cons_succ]
            refine wpAnyH_done (by kernel_rfl) ?_ _
            clear c15 m15 b15 e0 hS hE hED hE2
            have hE := hE3
            clear hE3
            have c2 : w3.drew.cell? ⟨bw, p2, none⟩ = some (.int .u32 (y : Int)) := (u32_at hE.drew 0 rfl (by rw [Hwl.out]; exact L2.out)).trans (by rw [G2.out])
            have hED := hE.drew
            go_wp2_with (first | go_skip)
            refine wp_region_held_drew (S := (fun w' => w'.cell? ⟨bw, p2, none⟩ = some (.int .u32 (y : Int)))) (by kernel_rfl) c2 (fun hS => ?_)
            refine wpAnyH_take (i := 0) (oi := { dst := some 65, op := Go.Op.move (Go.Operand.tmp 8), type := 3, pos := "ref.go:126", after := #[], guard := none }) (v := ?_) rfl (by kernel_rfl) (by kernel_rfl) (by kernel_rfl) (fun _ _ _ h => h) (Or.inl ⟨by rfl, ?_⟩) hS ?_
            rotate_left
            · (intro w hSw; (try dsimp only at hSw); go_simp; (try with_reducible rfl))
            try simp only [Act.put, List.setIfInBounds_toArray, List.set_cons_zero, List.set_cons_succ]
            refine wpAnyH_take (i := 1) (oi := { dst := some 66, op := Go.Op.binOp Go.BinOp.sub 3 (Go.Operand.tmp 65) (Go.Operand.const (Go.Value.int Go.IntKind.i64 2)) 3, type := 3, pos := "ref.go:126", after := #[{ on := 0, ground := Go.Ground.data }], guard := none }) (v := ?_) rfl (by kernel_rfl) (by kernel_rfl) (by kernel_rfl) (fun _ _ _ h => h) (Or.inl ⟨by rfl, ?_⟩) hS ?_
            rotate_left
            · (intro w hSw; (try dsimp only at hSw); go_simp; (try with_reducible rfl))
            try simp only [Act.put, List.setIfInBounds_toArray, List.set_cons_zero, List.set_cons_succ]
            refine wpAnyH_take (i := 2) (oi := { dst := some 67, op := Go.Op.indexAddr 43 (Go.Operand.tmp 7) (Go.Operand.tmp 66), type := 0, pos := "ref.go:126", after := #[{ on := 1, ground := Go.Ground.data }], guard := none }) (v := ?_) rfl (by kernel_rfl) (by kernel_rfl) (by kernel_rfl) (fun _ _ _ h => h) (Or.inl ⟨by rfl, ?_⟩) hS ?_
            rotate_left
            · (intro w hSw; (try dsimp only at hSw); go_simp; (try with_reducible rfl))
            try simp only [Act.put, List.setIfInBounds_toArray, List.set_cons_zero, List.set_cons_succ]
            refine wpAnyH_take (i := 3) (oi := { dst := some 68, op := Go.Op.load 23 (Go.Operand.tmp 67), type := 23, pos := "ref.go:126", after := #[{ on := 2, ground := Go.Ground.data }], guard := none }) (v := ?_) rfl (by kernel_rfl) (by kernel_rfl) (by kernel_rfl) (fun _ _ _ h => h) (Or.inl ⟨by rfl, ?_⟩) hS ?_
            rotate_left
            · (intro w hSw; (try dsimp only at hSw); go_simp; (try with_reducible rfl))
            try simp only [Act.put, List.setIfInBounds_toArray, List.set_cons_zero, List.set_cons_succ]
            refine wpAnyH_take (i := 5) (oi := { dst := some 70, op := Go.Op.move (Go.Operand.tmp 8), type := 3, pos := "ref.go:126", after := #[], guard := none }) (v := ?_) rfl (by kernel_rfl) (by kernel_rfl) (by kernel_rfl) (fun _ _ _ h => h) (Or.inl ⟨by rfl, ?_⟩) hS ?_
            rotate_left
            · (intro w hSw; (try dsimp only at hSw); go_simp; (try with_reducible rfl))
            try simp only [Act.put, List.setIfInBounds_toArray, List.set_cons_zero, List.set_cons_succ]
            refine wpAnyH_take (i := 6) (oi := { dst := some 71, op := Go.Op.binOp Go.BinOp.sub 3 (Go.Operand.tmp 70) (Go.Operand.const (Go.Value.int Go.IntKind.i64 2)) 3, type := 3, pos := "ref.go:126", after := #[{ on := 5, ground := Go.Ground.data }], guard := none }) (v := ?_) rfl (by kernel_rfl) (by kernel_rfl) (by kernel_rfl) (fun _ _ _ h => h) (Or.inl ⟨by rfl, ?_⟩) hS ?_
            rotate_left
            · (intro w hSw; (try dsimp only at hSw); go_simp; (try with_reducible rfl))
            try simp only [Act.put, List.setIfInBounds_toArray, List.set_cons_zero, List.set_cons_succ]
            refine wpAnyH_take (i := 7) (oi := { dst := some 72, op := Go.Op.indexAddr 43 (Go.Operand.tmp 7) (Go.Operand.tmp 71), type := 0, pos := "ref.go:126", after := #[{ on := 6, ground := Go.Ground.data }], guard := none }) (v := ?_) rfl (by kernel_rfl) (by kernel_rfl) (by kernel_rfl) (fun _ _ _ h => h) (Or.inl ⟨by rfl, ?_⟩) hS ?_
            rotate_left
            · (intro w hSw; (try dsimp only at hSw); go_simp; (try with_reducible rfl))
            try simp only [Act.put, List.setIfInBounds_toArray, List.set_cons_zero, List.set_cons_succ]
            refine wpAnyH_take (i := 8) (oi := { dst := some 73, op := Go.Op.load 23 (Go.Operand.tmp 72), type := 23, pos := "ref.go:126", after := #[{ on := 7, ground := Go.Ground.data }], guard := none }) (v := ?_) rfl (by kernel_rfl) (by kernel_rfl) (by kernel_rfl) (fun _ _ _ h => h) (Or.inl ⟨by rfl, ?_⟩) hS ?_
            rotate_left
            · (intro w hSw; (try dsimp only at hSw); go_simp; (try with_reducible rfl))
            try simp only [Act.put, List.setIfInBounds_toArray, List.set_cons_zero, List.set_cons_succ]
            refine wpAnyH_take (i := 11) (oi := { dst := some 76, op := Go.Op.move (Go.Operand.tmp 8), type := 3, pos := "ref.go:126", after := #[], guard := none }) (v := ?_) rfl (by kernel_rfl) (by kernel_rfl) (by kernel_rfl) (fun _ _ _ h => h) (Or.inl ⟨by rfl, ?_⟩) hS ?_
            rotate_left
            · (intro w hSw; (try dsimp only at hSw); go_simp; (try with_reducible rfl))
            try simp only [Act.put, List.setIfInBounds_toArray, List.set_cons_zero, List.set_cons_succ]
            refine wpAnyH_take (i := 12) (oi := { dst := some 77, op := Go.Op.binOp Go.BinOp.sub 3 (Go.Operand.tmp 76) (Go.Operand.const (Go.Value.int Go.IntKind.i64 2)) 3, type := 3, pos := "ref.go:126", after := #[{ on := 11, ground := Go.Ground.data }], guard := none }) (v := ?_) rfl (by kernel_rfl) (by kernel_rfl) (by kernel_rfl) (fun _ _ _ h => h) (Or.inl ⟨by rfl, ?_⟩) hS ?_
            rotate_left
            · (intro w hSw; (try dsimp only at hSw); go_simp; (try with_reducible rfl))
            try simp only [Act.put, List.setIfInBounds_toArray, List.set_cons_zero, List.set_cons_succ]
            refine wpAnyH_take (i := 13) (oi := { dst := some 78, op := Go.Op.indexAddr 43 (Go.Operand.tmp 7) (Go.Operand.tmp 77), type := 0, pos := "ref.go:126", after := #[{ on := 12, ground := Go.Ground.data }], guard := none }) (v := ?_) rfl (by kernel_rfl) (by kernel_rfl) (by kernel_rfl) (fun _ _ _ h => h) (Or.inl ⟨by rfl, ?_⟩) hS ?_
            rotate_left
            · (intro w hSw; (try dsimp only at hSw); go_simp; (try with_reducible rfl))
            try simp only [Act.put, List.setIfInBounds_toArray, List.set_cons_zero, List.set_cons_succ]
            refine wpAnyH_take (i := 14) (oi := { dst := some 79, op := Go.Op.load 23 (Go.Operand.tmp 78), type := 23, pos := "ref.go:126", after := #[{ on := 13, ground := Go.Ground.data }], guard := none }) (v := ?_) rfl (by kernel_rfl) (by kernel_rfl) (by kernel_rfl) (fun _ _ _ h => h) (Or.inl ⟨by rfl, ?_⟩) hS ?_
            rotate_left
            · (intro w hSw; (try dsimp only at hSw); go_simp; (try with_reducible rfl))
            try simp only [Act.put, List.setIfInBounds_toArray, List.set_cons_zero, List.set_cons_succ]
            refine wpAnyH_take (i := 15) (oi := { dst := some 80, op := Go.Op.binOp Go.BinOp.shr 23 (Go.Operand.tmp 79) (Go.Operand.const (Go.Value.int Go.IntKind.u64 10)) 29, type := 23, pos := "ref.go:126", after := #[{ on := 14, ground := Go.Ground.data }], guard := none }) (v := ?_) rfl (by kernel_rfl) (by kernel_rfl) (by kernel_rfl) (fun _ _ _ h => h) (Or.inl ⟨by rfl, ?_⟩) hS ?_
            rotate_left
            · (intro w hSw; (try dsimp only at hSw); go_simp; (try with_reducible rfl))
            try simp only [Act.put, List.setIfInBounds_toArray, List.set_cons_zero, List.set_cons_succ]
            refine wpAnyH_ready (rs := [4]) (by kernel_rfl) (by simp) ?_
            refine (AllReadyH.cons (o := { dst := some 69, op := Go.Op.call { callee := Go.Callee.value (Go.Operand.func 21), args := #[Go.Operand.tmp 68, Go.Operand.const (Go.Value.int Go.IntKind.i64 17)], argTypes := #[23, 3] }, type := 23, pos := "ref.go:126", after := #[{ on := 3, ground := Go.Ground.data }], guard := none }) rfl (fun K hK => ?_) AllReadyH.nil)
            (go_simp; go_at_call 21; refine (rotr_17 y l2 _).mono ?_; rintro e w4 ⟨_, rfl, rfl, hk1⟩; have hE2 := hk1 _ hED; clear hk1)
            refine hK.out _ _ ((u32_at hE2 0 rfl (by rw [Hwl.out]; exact L2.out)).trans (by rw [G2.out])) (fun hS => ?_)
            clear hK K
            try simp only [Act.put, List.setIfInBounds_toArray, List.set_cons_zero, List.set_cons_succ]
            refine wpAnyH_ready (rs := [9]) (by kernel_rfl) (by simp) ?_
            refine (AllReadyH.cons (o := { dst := some 74, op := Go.Op.call { callee := Go.Callee.value (Go.Operand.func 21), args := #[Go.Operand.tmp 73, Go.Operand.const (Go.Value.int Go.IntKind.i64 19)], argTypes := #[23, 3] }, type := 23, pos := "ref.go:126", after := #[{ on := 8, ground := Go.Ground.data }, { on := 4, ground := Go.Ground.chain }], guard := none }) rfl (fun K hK => ?_) AllReadyH.nil)
            (go_simp; go_at_call 21; refine (rotr_19 y l2 _).mono ?_; rintro e w5 ⟨_, rfl, rfl, hk1⟩; have hE3 := hk1 _ hE2; clear hk1)
            refine hK.out _ _ ((u32_at hE3 0 rfl (by rw [Hwl.out]; exact L2.out)).trans (by rw [G2.out])) (fun hS => ?_)
            clear hK K
            try simp only [Act.put, List.setIfInBounds_toArray, List.set_cons_zero, List.set_cons_succ]
            refine wpAnyH_take (i := 10) (oi := { dst := some 75, op := Go.Op.binOp Go.BinOp.xor 23 (Go.Operand.tmp 69) (Go.Operand.tmp 74) 23, type := 23, pos := "ref.go:126", after := #[{ on := 4, ground := Go.Ground.data }, { on := 9, ground := Go.Ground.data }], guard := none }) (v := ?_) rfl (by kernel_rfl) (by kernel_rfl) (by kernel_rfl) (fun _ _ _ h => h) (Or.inl ⟨by rfl, ?_⟩) hS ?_
            rotate_left
            · (intro w hSw; (try dsimp only at hSw); go_simp; (try with_reducible rfl))
            try simp only [Act.put, List.setIfInBounds_toArray, List.set_cons_zero, List.set_cons_succ]
            refine wpAnyH_take (i := 16) (oi := { dst := some 81, op := Go.Op.binOp Go.BinOp.xor 23 (Go.Operand.tmp 75) (Go.Operand.tmp 80) 23, type := 23, pos := "ref.go:126", after := #[{ on := 10, ground := Go.Ground.data }, { on := 15, ground := Go.Ground.data }], guard := none }) (v := ?_) rfl (by kernel_rfl) (by kernel_rfl) (by kernel_rfl) (fun _ _ _ h => h) (Or.inl ⟨by rfl, ?_⟩) hS ?_
            rotate_left
            · (intro w hSw; (try dsimp only at hSw); go_simp; (try with_reducible rfl))
            try simp only [Act.put, List.setIfInBounds_toArray, List.set_cons_zero, List.set_cons_succ]
            refine wpAnyH_take (i := 17) (oi := { dst := some 10, op := Go.Op.assign (Go.Operand.tmp 81), type := 23, pos := "ref.go:126", after := #[{ on := 16, ground := Go.Ground.data }, { on := 9, ground := Go.Ground.chain }, { on := 0, ground := Go.Ground.phase }, { on := 1, ground := Go.Ground.phase }, { on := 2, ground := Go.Ground.phase }, { on := 3, ground := Go.Ground.phase }, { on := 4, ground := Go.Ground.phase }, { on := 5, ground := Go.Ground.phase }, { on := 6, ground := Go.Ground.phase }, { on := 7, ground := Go.Ground.phase }, { on := 8, ground := Go.Ground.phase }, { on := 9, ground := Go.Ground.phase }, { on := 10, ground := Go.Ground.phase }, { on := 11, ground := Go.Ground.phase }, { on := 12, ground := Go.Ground.phase }, { on := 13, ground := Go.Ground.phase }, { on := 14, ground := Go.Ground.phase }, { on := 15, ground := Go.Ground.phase }, { on := 16, ground := Go.Ground.phase }], guard := none }) (v := ?_) rfl (by kernel_rfl) (by kernel_rfl) (by kernel_rfl) (fun _ _ _ h => h) (Or.inl ⟨by rfl, ?_⟩) hS ?_
            rotate_left
            · (intro w hSw; (try dsimp only at hSw); go_simp; (try with_reducible rfl))
            try simp only [Act.put, List.setIfInBounds_toArray, List.set_cons_zero, List.set_cons_succ]
            refine wpAnyH_done (by kernel_rfl) ?_ _
            clear c2 m2 b2 e1 hS hE hED hE2
            have hE := hE3
            clear hE3
            have c7 : w5.drew.cell? ⟨bw, p7, none⟩ = some (.int .u32 (z : Int)) := (u32_at hE.drew 0 rfl (by rw [Hwl.out]; exact L7.out)).trans (by rw [G7.out])
            have c16 : w5.drew.cell? ⟨bw, p16, none⟩ = some (.int .u32 (o : Int)) := (u32_at hE.drew 0 rfl (by rw [Hwl.out]; exact L16.out)).trans (by rw [G16.out])
            have ck := u32_at hE.drew 0 rfl (k := k) (by rw [Hwl.out]; exact hk64)
            have fk := hE.drew.frozen 0 rfl k
            generalize (wst bj k).getD k 0 = old at ck
            rw [← Hhi.out] at e2
            generalize nextW bj k = nw at *
            go_wp2_with (first | go_skip)
            refine wp_region_held_drew (S := (fun w' => w'.cell? ⟨bw, p7, none⟩ = some (.int .u32 (z : Int)) ∧ w'.cell? ⟨bw, p16, none⟩ = some (.int .u32 (o : Int)))) (by kernel_rfl) ⟨c7, c16⟩ (fun hS => ?_)
            refine wpAnyH_take (i := 0) (oi := { dst := some 82, op := Go.Op.move (Go.Operand.tmp 8), type := 3, pos := "ref.go:127", after := #[], guard := none }) (v := ?_) rfl (by kernel_rfl) (by kernel_rfl) (by kernel_rfl) (fun _ _ _ h => h) (Or.inl ⟨by rfl, ?_⟩) hS ?_
            rotate_left
            · (intro w hSw; (try dsimp only at hSw); go_simp; (try with_reducible rfl))
            try simp only [Act.put, List.setIfInBounds_toArray, List.set_cons_zero, List.set_cons_succ]
            refine wpAnyH_take (i := 1) (oi := { dst := some 83, op := Go.Op.move (Go.Operand.tmp 8), type := 3, pos := "ref.go:127", after := #[], guard := none }) (v := ?_) rfl (by kernel_rfl) (by kernel_rfl) (by kernel_rfl) (fun _ _ _ h => h) (Or.inl ⟨by rfl, ?_⟩) hS ?_
            rotate_left
            · (intro w hSw; (try dsimp only at hSw); go_simp; (try with_reducible rfl))
            try simp only [Act.put, List.setIfInBounds_toArray, List.set_cons_zero, List.set_cons_succ]
            refine wpAnyH_take (i := 2) (oi := { dst := some 84, op := Go.Op.binOp Go.BinOp.sub 3 (Go.Operand.tmp 83) (Go.Operand.const (Go.Value.int Go.IntKind.i64 16)) 3, type := 3, pos := "ref.go:127", after := #[{ on := 1, ground := Go.Ground.data }], guard := none }) (v := ?_) rfl (by kernel_rfl) (by kernel_rfl) (by kernel_rfl) (fun _ _ _ h => h) (Or.inl ⟨by rfl, ?_⟩) hS ?_
            rotate_left
            · (intro w hSw; (try dsimp only at hSw); go_simp; (try with_reducible rfl))
            try simp only [Act.put, List.setIfInBounds_toArray, List.set_cons_zero, List.set_cons_succ]
            refine wpAnyH_take (i := 3) (oi := { dst := some 85, op := Go.Op.indexAddr 43 (Go.Operand.tmp 7) (Go.Operand.tmp 84), type := 0, pos := "ref.go:127", after := #[{ on := 2, ground := Go.Ground.data }], guard := none }) (v := ?_) rfl (by kernel_rfl) (by kernel_rfl) (by kernel_rfl) (fun _ _ _ h => h) (Or.inl ⟨by rfl, ?_⟩) hS ?_
            rotate_left
            · (intro w hSw; (try dsimp only at hSw); go_simp; (try with_reducible rfl))
            try simp only [Act.put, List.setIfInBounds_toArray, List.set_cons_zero, List.set_cons_succ]
            refine wpAnyH_take (i := 4) (oi := { dst := some 86, op := Go.Op.load 23 (Go.Operand.tmp 85), type := 23, pos := "ref.go:127", after := #[{ on := 3, ground := Go.Ground.data }], guard := none }) (v := ?_) rfl (by kernel_rfl) (by kernel_rfl) (by kernel_rfl) (fun _ _ _ h => h) (Or.inl ⟨by rfl, ?_⟩) hS ?_
            rotate_left
            · (intro w hSw; (try dsimp only at hSw); go_simp; (try with_reducible rfl))
            try simp only [Act.put, List.setIfInBounds_toArray, List.set_cons_zero, List.set_cons_succ]
            refine wpAnyH_take (i := 5) (oi := { dst := some 87, op := Go.Op.move (Go.Operand.tmp 9), type := 23, pos := "ref.go:127", after := #[], guard := none }) (v := ?_) rfl (by kernel_rfl) (by kernel_rfl) (by kernel_rfl) (fun _ _ _ h => h) (Or.inl ⟨by rfl, ?_⟩) hS ?_
            rotate_left
            · (intro w hSw; (try dsimp only at hSw); go_simp; (try with_reducible rfl))
            try simp only [Act.put, List.setIfInBounds_toArray, List.set_cons_zero, List.set_cons_succ]
            refine wpAnyH_take (i := 6) (oi := { dst := some 88, op := Go.Op.binOp Go.BinOp.add 23 (Go.Operand.tmp 86) (Go.Operand.tmp 87) 23, type := 23, pos := "ref.go:127", after := #[{ on := 4, ground := Go.Ground.data }, { on := 5, ground := Go.Ground.data }], guard := none }) (v := ?_) rfl (by kernel_rfl) (by kernel_rfl) (by kernel_rfl) (fun _ _ _ h => h) (Or.inl ⟨by rfl, ?_⟩) hS ?_
            rotate_left
            · (intro w hSw; (try dsimp only at hSw); go_simp; (try with_reducible rfl))
            try simp only [Act.put, List.setIfInBounds_toArray, List.set_cons_zero, List.set_cons_succ]
            refine wpAnyH_take (i := 7) (oi := { dst := some 89, op := Go.Op.move (Go.Operand.tmp 8), type := 3, pos := "ref.go:127", after := #[], guard := none }) (v := ?_) rfl (by kernel_rfl) (by kernel_rfl) (by kernel_rfl) (fun _ _ _ h => h) (Or.inl ⟨by rfl, ?_⟩) hS ?_
            rotate_left
            · (intro w hSw; (try dsimp only at hSw); go_simp; (try with_reducible rfl))
            try simp only [Act.put, List.setIfInBounds_toArray, List.set_cons_zero, List.set_cons_succ]
            refine wpAnyH_take (i := 8) (oi := { dst := some 90, op := Go.Op.binOp Go.BinOp.sub 3 (Go.Operand.tmp 89) (Go.Operand.const (Go.Value.int Go.IntKind.i64 7)) 3, type := 3, pos := "ref.go:127", after := #[{ on := 7, ground := Go.Ground.data }], guard := none }) (v := ?_) rfl (by kernel_rfl) (by kernel_rfl) (by kernel_rfl) (fun _ _ _ h => h) (Or.inl ⟨by rfl, ?_⟩) hS ?_
            rotate_left
            · (intro w hSw; (try dsimp only at hSw); go_simp; (try with_reducible rfl))
            try simp only [Act.put, List.setIfInBounds_toArray, List.set_cons_zero, List.set_cons_succ]
            refine wpAnyH_take (i := 9) (oi := { dst := some 91, op := Go.Op.indexAddr 43 (Go.Operand.tmp 7) (Go.Operand.tmp 90), type := 0, pos := "ref.go:127", after := #[{ on := 8, ground := Go.Ground.data }], guard := none }) (v := ?_) rfl (by kernel_rfl) (by kernel_rfl) (by kernel_rfl) (fun _ _ _ h => h) (Or.inl ⟨by rfl, ?_⟩) hS ?_
            rotate_left
            · (intro w hSw; (try dsimp only at hSw); go_simp; (try with_reducible rfl))
            try simp only [Act.put, List.setIfInBounds_toArray, List.set_cons_zero, List.set_cons_succ]
            refine wpAnyH_take (i := 10) (oi := { dst := some 92, op := Go.Op.load 23 (Go.Operand.tmp 91), type := 23, pos := "ref.go:127", after := #[{ on := 9, ground := Go.Ground.data }], guard := none }) (v := ?_) rfl (by kernel_rfl) (by kernel_rfl) (by kernel_rfl) (fun _ _ _ h => h) (Or.inl ⟨by rfl, ?_⟩) hS ?_
            rotate_left
            · (intro w hSw; (try dsimp only at hSw); go_simp; (try with_reducible rfl))
            try simp only [Act.put, List.setIfInBounds_toArray, List.set_cons_zero, List.set_cons_succ]
            refine wpAnyH_take (i := 11) (oi := { dst := some 93, op := Go.Op.binOp Go.BinOp.add 23 (Go.Operand.tmp 88) (Go.Operand.tmp 92) 23, type := 23, pos := "ref.go:127", after := #[{ on := 6, ground := Go.Ground.data }, { on := 10, ground := Go.Ground.data }], guard := none }) (v := ?_) rfl (by kernel_rfl) (by kernel_rfl) (by kernel_rfl) (fun _ _ _ h => h) (Or.inl ⟨by rfl, ?_⟩) hS ?_
            rotate_left
            · (intro w hSw; (try dsimp only at hSw); go_simp; (try with_reducible rfl))
            try simp only [Act.put, List.setIfInBounds_toArray, List.set_cons_zero, List.set_cons_succ]
            refine wpAnyH_take (i := 12) (oi := { dst := some 94, op := Go.Op.move (Go.Operand.tmp 10), type := 23, pos := "ref.go:127", after := #[], guard := none }) (v := ?_) rfl (by kernel_rfl) (by kernel_rfl) (by kernel_rfl) (fun _ _ _ h => h) (Or.inl ⟨by rfl, ?_⟩) hS ?_
            rotate_left
            · (intro w hSw; (try dsimp only at hSw); go_simp; (try with_reducible rfl))
            try simp only [Act.put, List.setIfInBounds_toArray, List.set_cons_zero, List.set_cons_succ]
            refine wpAnyH_take (i := 13) (oi := { dst := some 95, op := Go.Op.binOp Go.BinOp.add 23 (Go.Operand.tmp 93) (Go.Operand.tmp 94) 23, type := 23, pos := "ref.go:127", after := #[{ on := 11, ground := Go.Ground.data }, { on := 12, ground := Go.Ground.data }], guard := none }) (v := ?_) rfl (by kernel_rfl) (by kernel_rfl) (by kernel_rfl) (fun _ _ _ h => h) (Or.inl ⟨by rfl, ?_⟩) hS ?_
            rotate_left
            · (intro w hSw; (try dsimp only at hSw); go_simp; (try with_reducible rfl))
            try simp only [Act.put, List.setIfInBounds_toArray, List.set_cons_zero, List.set_cons_succ]
            refine wpAnyH_take (i := 14) (oi := { dst := some 96, op := Go.Op.indexAddr 43 (Go.Operand.tmp 7) (Go.Operand.tmp 82), type := 0, pos := "ref.go:127", after := #[{ on := 0, ground := Go.Ground.data }, { on := 0, ground := Go.Ground.phase }, { on := 1, ground := Go.Ground.phase }, { on := 2, ground := Go.Ground.phase }, { on := 3, ground := Go.Ground.phase }, { on := 4, ground := Go.Ground.phase }, { on := 5, ground := Go.Ground.phase }, { on := 6, ground := Go.Ground.phase }, { on := 7, ground := Go.Ground.phase }, { on := 8, ground := Go.Ground.phase }, { on := 9, ground := Go.Ground.phase }, { on := 10, ground := Go.Ground.phase }, { on := 11, ground := Go.Ground.phase }, { on := 12, ground := Go.Ground.phase }, { on := 13, ground := Go.Ground.phase }], guard := none }) (v := ?_) rfl (by kernel_rfl) (by kernel_rfl) (by kernel_rfl) (fun _ _ _ h => h) (Or.inl ⟨by rfl, ?_⟩) hS ?_
            rotate_left
            · (intro w hSw; (try dsimp only at hSw); go_simp; (try with_reducible rfl))
            try simp only [Act.put, List.setIfInBounds_toArray, List.set_cons_zero, List.set_cons_succ]
            refine wpAnyH_ready (rs := [15]) (by kernel_rfl) (by simp) ?_
            refine (AllReadyH.cons (o := { dst := none, op := Go.Op.store 23 (Go.Operand.tmp 96) (Go.Operand.tmp 95), type := 0, pos := "ref.go:127", after := #[{ on := 14, ground := Go.Ground.data }, { on := 13, ground := Go.Ground.data }, { on := 0, ground := Go.Ground.phase }, { on := 1, ground := Go.Ground.phase }, { on := 2, ground := Go.Ground.phase }, { on := 3, ground := Go.Ground.phase }, { on := 4, ground := Go.Ground.phase }, { on := 5, ground := Go.Ground.phase }, { on := 6, ground := Go.Ground.phase }, { on := 7, ground := Go.Ground.phase }, { on := 8, ground := Go.Ground.phase }, { on := 9, ground := Go.Ground.phase }, { on := 10, ground := Go.Ground.phase }, { on := 11, ground := Go.Ground.phase }, { on := 12, ground := Go.Ground.phase }, { on := 13, ground := Go.Ground.phase }], guard := none }) rfl (fun K hK => ?_) AllReadyH.nil)
            go_simp
            refine hK.out _ _ ⟨u32_other hE (show w5.cell? ⟨bw, p7, none⟩ = _ from c7) N7.out, u32_other hE (show w5.cell? ⟨bw, p16, none⟩ = _ from c16) N16.out⟩ (fun hS => ?_)
            clear hK K
            try simp only [Act.put, List.setIfInBounds_toArray, List.set_cons_zero, List.set_cons_succ]
            refine wpAnyH_done (by kernel_rfl) ?_ _
            have hF := (hE.setCell 0 rfl k (.int .u32 (nw : Int))).drew
            simp only [List.set_cons_zero] at hF
            rw [next_ring, ← Hnx.out] at hF
            clear hS hE c7 c16 m7 m16 b7 b16 e2 ck fk
            go_wp2_with (first | go_skip)
            go_roundw
            case rel => exact ⟨k + 1, hk64, by simp, hF⟩
            case measure => simp [intOf]; omega
        · obtain rfl : k = 64 := by omega
          simp only [show ((64 : Nat) : Int) = 64 from rfl]
          have Hget := SL.hid (wst_get bj 64 (Nat.le_refl _))
          have hE0 := hE
          clear hE hk hk64
          go_wp2_with (first | go_skip)
          refine wp_region_held_drew (S := (fun w' => w'.cell? ⟨bt, 64, none⟩ = some (.int .u32 (v.a : Int)) ∧ w'.cell? ⟨bt, 65, none⟩ = some (.int .u32 (v.b : Int)) ∧ w'.cell? ⟨bt, 66, none⟩ = some (.int .u32 (v.c : Int)) ∧ w'.cell? ⟨bt, 67, none⟩ = some (.int .u32 (v.d : Int)) ∧ w'.cell? ⟨bt, 68, none⟩ = some (.int .u32 (v.e : Int)) ∧ w'.cell? ⟨bt, 69, none⟩ = some (.int .u32 (v.f : Int)) ∧ w'.cell? ⟨bt, 70, none⟩ = some (.int .u32 (v.g : Int)) ∧ w'.cell? ⟨bt, 71, none⟩ = some (.int .u32 (v.h : Int)))) (by kernel_rfl) (tab_cells hE0.drew 1 rfl) (fun hS => ?_)
          refine wpAnyH_take (i := 0) (oi := { dst := some 97, op := Go.Op.fieldAddr 45 (Go.Operand.tmp 2) 1, type := 0, pos := "ref.go:129", after := #[], guard := none }) (v := ?_) rfl (by kernel_rfl) (by kernel_rfl) (by kernel_rfl) (fun _ _ _ h => h) (Or.inl ⟨by rfl, ?_⟩) hS ?_
          rotate_left
          · (intro w hSw; (try dsimp only at hSw); go_simp; (try with_reducible rfl))
          try simp only [Act.put, List.setIfInBounds_toArray, List.set_cons_zero, List.set_cons_succ]
          refine wpAnyH_take (i := 1) (oi := { dst := some 98, op := Go.Op.indexAddr 38 (Go.Operand.tmp 97) (Go.Operand.const (Go.Value.int Go.IntKind.i64 0)), type := 0, pos := "ref.go:129", after := #[{ on := 0, ground := Go.Ground.data }], guard := none }) (v := ?_) rfl (by kernel_rfl) (by kernel_rfl) (by kernel_rfl) (fun _ _ _ h => h) (Or.inl ⟨by rfl, ?_⟩) hS ?_
          rotate_left
          · (intro w hSw; (try dsimp only at hSw); go_simp; (try with_reducible rfl))
          try simp only [Act.put, List.setIfInBounds_toArray, List.set_cons_zero, List.set_cons_succ]
          refine wpAnyH_take (i := 2) (oi := { dst := some 99, op := Go.Op.load 23 (Go.Operand.tmp 98), type := 23, pos := "ref.go:129", after := #[{ on := 1, ground := Go.Ground.data }], guard := none }) (v := ?_) rfl (by kernel_rfl) (by kernel_rfl) (by kernel_rfl) (fun _ _ _ h => h) (Or.inl ⟨by rfl, ?_⟩) hS ?_
          rotate_left
          · (intro w hSw; (try dsimp only at hSw); go_simp; (try with_reducible rfl))
          try simp only [Act.put, List.setIfInBounds_toArray, List.set_cons_zero, List.set_cons_succ]
          refine wpAnyH_take (i := 3) (oi := { dst := some 100, op := Go.Op.fieldAddr 45 (Go.Operand.tmp 2) 1, type := 0, pos := "ref.go:129", after := #[{ on := 24, ground := Go.Ground.gcOnly Go.Departure.lateStores }], guard := none }) (v := ?_) rfl (by kernel_rfl) (by kernel_rfl) (by kernel_rfl) (fun _ _ _ h => h) (Or.inl ⟨by rfl, ?_⟩) hS ?_
          rotate_left
          · (intro w hSw; (try dsimp only at hSw); go_simp; (try with_reducible rfl))
          try simp only [Act.put, List.setIfInBounds_toArray, List.set_cons_zero, List.set_cons_succ]
          refine wpAnyH_take (i := 4) (oi := { dst := some 101, op := Go.Op.indexAddr 38 (Go.Operand.tmp 100) (Go.Operand.const (Go.Value.int Go.IntKind.i64 1)), type := 0, pos := "ref.go:129", after := #[{ on := 3, ground := Go.Ground.data }, { on := 24, ground := Go.Ground.gcOnly Go.Departure.lateStores }], guard := none }) (v := ?_) rfl (by kernel_rfl) (by kernel_rfl) (by kernel_rfl) (fun _ _ _ h => h) (Or.inl ⟨by rfl, ?_⟩) hS ?_
          rotate_left
          · (intro w hSw; (try dsimp only at hSw); go_simp; (try with_reducible rfl))
          try simp only [Act.put, List.setIfInBounds_toArray, List.set_cons_zero, List.set_cons_succ]
          refine wpAnyH_take (i := 5) (oi := { dst := some 102, op := Go.Op.load 23 (Go.Operand.tmp 101), type := 23, pos := "ref.go:129", after := #[{ on := 4, ground := Go.Ground.data }, { on := 24, ground := Go.Ground.gcOnly Go.Departure.lateStores }], guard := none }) (v := ?_) rfl (by kernel_rfl) (by kernel_rfl) (by kernel_rfl) (fun _ _ _ h => h) (Or.inl ⟨by rfl, ?_⟩) hS ?_
          rotate_left
          · (intro w hSw; (try dsimp only at hSw); go_simp; (try with_reducible rfl))
          try simp only [Act.put, List.setIfInBounds_toArray, List.set_cons_zero, List.set_cons_succ]
          refine wpAnyH_take (i := 6) (oi := { dst := some 103, op := Go.Op.fieldAddr 45 (Go.Operand.tmp 2) 1, type := 0, pos := "ref.go:129", after := #[{ on := 25, ground := Go.Ground.gcOnly Go.Departure.lateStores }], guard := none }) (v := ?_) rfl (by kernel_rfl) (by kernel_rfl) (by kernel_rfl) (fun _ _ _ h => h) (Or.inl ⟨by rfl, ?_⟩) hS ?_
          rotate_left
          · (intro w hSw; (try dsimp only at hSw); go_simp; (try with_reducible rfl))
          try simp only [Act.put, List.setIfInBounds_toArray, List.set_cons_zero, List.set_cons_succ]
          refine wpAnyH_take (i := 7) (oi := { dst := some 104, op := Go.Op.indexAddr 38 (Go.Operand.tmp 103) (Go.Operand.const (Go.Value.int Go.IntKind.i64 2)), type := 0, pos := "ref.go:129", after := #[{ on := 6, ground := Go.Ground.data }, { on := 25, ground := Go.Ground.gcOnly Go.Departure.lateStores }], guard := none }) (v := ?_) rfl (by kernel_rfl) (by kernel_rfl) (by kernel_rfl) (fun _ _ _ h => h) (Or.inl ⟨by rfl, ?_⟩) hS ?_
          rotate_left
          · (intro w hSw; (try dsimp only at hSw); go_simp; (try with_reducible rfl))
          try simp only [Act.put, List.setIfInBounds_toArray, List.set_cons_zero, List.set_cons_succ]
          refine wpAnyH_take (i := 8) (oi := { dst := some 105, op := Go.Op.load 23 (Go.Operand.tmp 104), type := 23, pos := "ref.go:129", after := #[{ on := 7, ground := Go.Ground.data }, { on := 25, ground := Go.Ground.gcOnly Go.Departure.lateStores }], guard := none }) (v := ?_) rfl (by kernel_rfl) (by kernel_rfl) (by kernel_rfl) (fun _ _ _ h => h) (Or.inl ⟨by rfl, ?_⟩) hS ?_
          rotate_left
          · (intro w hSw; (try dsimp only at hSw); go_simp; (try with_reducible rfl))
          try simp only [Act.put, List.setIfInBounds_toArray, List.set_cons_zero, List.set_cons_succ]
          refine wpAnyH_take (i := 9) (oi := { dst := some 106, op := Go.Op.fieldAddr 45 (Go.Operand.tmp 2) 1, type := 0, pos := "ref.go:129", after := #[{ on := 26, ground := Go.Ground.gcOnly Go.Departure.lateStores }], guard := none }) (v := ?_) rfl (by kernel_rfl) (by kernel_rfl) (by kernel_rfl) (fun _ _ _ h => h) (Or.inl ⟨by rfl, ?_⟩) hS ?_
          rotate_left
          · (intro w hSw; (try dsimp only at hSw); go_simp; (try with_reducible rfl))
          try simp only [Act.put, List.setIfInBounds_toArray, List.set_cons_zero, List.set_cons_succ]
          refine wpAnyH_take (i := 10) (oi := { dst := some 107, op := Go.Op.indexAddr 38 (Go.Operand.tmp 106) (Go.Operand.const (Go.Value.int Go.IntKind.i64 3)), type := 0, pos := "ref.go:129", after := #[{ on := 9, ground := Go.Ground.data }, { on := 26, ground := Go.Ground.gcOnly Go.Departure.lateStores }], guard := none }) (v := ?_) rfl (by kernel_rfl) (by kernel_rfl) (by kernel_rfl) (fun _ _ _ h => h) (Or.inl ⟨by rfl, ?_⟩) hS ?_
          rotate_left
          · (intro w hSw; (try dsimp only at hSw); go_simp; (try with_reducible rfl))
          try simp only [Act.put, List.setIfInBounds_toArray, List.set_cons_zero, List.set_cons_succ]
          refine wpAnyH_take (i := 11) (oi := { dst := some 108, op := Go.Op.load 23 (Go.Operand.tmp 107), type := 23, pos := "ref.go:129", after := #[{ on := 10, ground := Go.Ground.data }, { on := 26, ground := Go.Ground.gcOnly Go.Departure.lateStores }], guard := none }) (v := ?_) rfl (by kernel_rfl) (by kernel_rfl) (by kernel_rfl) (fun _ _ _ h => h) (Or.inl ⟨by rfl, ?_⟩) hS ?_
          rotate_left
          · (intro w hSw; (try dsimp only at hSw); go_simp; (try with_reducible rfl))
          try simp only [Act.put, List.setIfInBounds_toArray, List.set_cons_zero, List.set_cons_succ]
          refine wpAnyH_take (i := 12) (oi := { dst := some 109, op := Go.Op.fieldAddr 45 (Go.Operand.tmp 2) 1, type := 0, pos := "ref.go:129", after := #[{ on := 27, ground := Go.Ground.gcOnly Go.Departure.lateStores }], guard := none }) (v := ?_) rfl (by kernel_rfl) (by kernel_rfl) (by kernel_rfl) (fun _ _ _ h => h) (Or.inl ⟨by rfl, ?_⟩) hS ?_
          rotate_left
          · (intro w hSw; (try dsimp only at hSw); go_simp; (try with_reducible rfl))
          try simp only [Act.put, List.setIfInBounds_toArray, List.set_cons_zero, List.set_cons_succ]
          refine wpAnyH_take (i := 13) (oi := { dst := some 110, op := Go.Op.indexAddr 38 (Go.Operand.tmp 109) (Go.Operand.const (Go.Value.int Go.IntKind.i64 4)), type := 0, pos := "ref.go:129", after := #[{ on := 12, ground := Go.Ground.data }, { on := 27, ground := Go.Ground.gcOnly Go.Departure.lateStores }], guard := none }) (v := ?_) rfl (by kernel_rfl) (by kernel_rfl) (by kernel_rfl) (fun _ _ _ h => h) (Or.inl ⟨by rfl, ?_⟩) hS ?_
          rotate_left
          · (intro w hSw; (try dsimp only at hSw); go_simp; (try with_reducible rfl))
          try simp only [Act.put, List.setIfInBounds_toArray, List.set_cons_zero, List.set_cons_succ]
          refine wpAnyH_take (i := 14) (oi := { dst := some 111, op := Go.Op.load 23 (Go.Operand.tmp 110), type := 23, pos := "ref.go:129", after := #[{ on := 13, ground := Go.Ground.data }, { on := 27, ground := Go.Ground.gcOnly Go.Departure.lateStores }], guard := none }) (v := ?_) rfl (by kernel_rfl) (by kernel_rfl) (by kernel_rfl) (fun _ _ _ h => h) (Or.inl ⟨by rfl, ?_⟩) hS ?_
          rotate_left
          · (intro w hSw; (try dsimp only at hSw); go_simp; (try with_reducible rfl))
          try simp only [Act.put, List.setIfInBounds_toArray, List.set_cons_zero, List.set_cons_succ]
          refine wpAnyH_take (i := 15) (oi := { dst := some 112, op := Go.Op.fieldAddr 45 (Go.Operand.tmp 2) 1, type := 0, pos := "ref.go:129", after := #[{ on := 28, ground := Go.Ground.gcOnly Go.Departure.lateStores }], guard := none }) (v := ?_) rfl (by kernel_rfl) (by kernel_rfl) (by kernel_rfl) (fun _ _ _ h => h) (Or.inl ⟨by rfl, ?_⟩) hS ?_
          rotate_left
          · (intro w hSw; (try dsimp only at hSw); go_simp; (try with_reducible rfl))
          try simp only [Act.put, List.setIfInBounds_toArray, List.set_cons_zero, List.set_cons_succ]
          refine wpAnyH_take (i := 16) (oi := { dst := some 113, op := Go.Op.indexAddr 38 (Go.Operand.tmp 112) (Go.Operand.const (Go.Value.int Go.IntKind.i64 5)), type := 0, pos := "ref.go:129", after := #[{ on := 15, ground := Go.Ground.data }, { on := 28, ground := Go.Ground.gcOnly Go.Departure.lateStores }], guard := none }) (v := ?_) rfl (by kernel_rfl) (by kernel_rfl) (by kernel_rfl) (fun _ _ _ h => h) (Or.inl ⟨by rfl, ?_⟩) hS ?_
          rotate_left
          · (intro w hSw; (try dsimp only at hSw); go_simp; (try with_reducible rfl))
          try simp only [Act.put, List.setIfInBounds_toArray, List.set_cons_zero, List.set_cons_succ]
          refine wpAnyH_take (i := 17) (oi := { dst := some 114, op := Go.Op.load 23 (Go.Operand.tmp 113), type := 23, pos := "ref.go:129", after := #[{ on := 16, ground := Go.Ground.data }, { on := 28, ground := Go.Ground.gcOnly Go.Departure.lateStores }], guard := none }) (v := ?_) rfl (by kernel_rfl) (by kernel_rfl) (by kernel_rfl) (fun _ _ _ h => h) (Or.inl ⟨by rfl, ?_⟩) hS ?_
          rotate_left
          · (intro w hSw; (try dsimp only at hSw); go_simp; (try with_reducible rfl))
          try simp only [Act.put, List.setIfInBounds_toArray, List.set_cons_zero, List.set_cons_succ]
          refine wpAnyH_take (i := 18) (oi := { dst := some 115, op := Go.Op.fieldAddr 45 (Go.Operand.tmp 2) 1, type := 0, pos := "ref.go:129", after := #[{ on := 29, ground := Go.Ground.gcOnly Go.Departure.lateStores }], guard := none }) (v := ?_) rfl (by kernel_rfl) (by kernel_rfl) (by kernel_rfl) (fun _ _ _ h => h) (Or.inl ⟨by rfl, ?_⟩) hS ?_
          rotate_left
          · (intro w hSw; (try dsimp only at hSw); go_simp; (try with_reducible rfl))
          try simp only [Act.put, List.setIfInBounds_toArray, List.set_cons_zero, List.set_cons_succ]
          refine wpAnyH_take (i := 19) (oi := { dst := some 116, op := Go.Op.indexAddr 38 (Go.Operand.tmp 115) (Go.Operand.const (Go.Value.int Go.IntKind.i64 6)), type := 0, pos := "ref.go:129", after := #[{ on := 18, ground := Go.Ground.data }, { on := 29, ground := Go.Ground.gcOnly Go.Departure.lateStores }], guard := none }) (v := ?_) rfl (by kernel_rfl) (by kernel_rfl) (by kernel_rfl) (fun _ _ _ h => h) (Or.inl ⟨by rfl, ?_⟩) hS ?_
          rotate_left
          · (intro w hSw; (try dsimp only at hSw); go_simp; (try with_reducible rfl))
          try simp only [Act.put, List.setIfInBounds_toArray, List.set_cons_zero, List.set_cons_succ]
          refine wpAnyH_take (i := 20) (oi := { dst := some 117, op := Go.Op.load 23 (Go.Operand.tmp 116), type := 23, pos := "ref.go:129", after := #[{ on := 19, ground := Go.Ground.data }, { on := 29, ground := Go.Ground.gcOnly Go.Departure.lateStores }], guard := none }) (v := ?_) rfl (by kernel_rfl) (by kernel_rfl) (by kernel_rfl) (fun _ _ _ h => h) (Or.inl ⟨by rfl, ?_⟩) hS ?_
          rotate_left
          · (intro w hSw; (try dsimp only at hSw); go_simp; (try with_reducible rfl))
          try simp only [Act.put, List.setIfInBounds_toArray, List.set_cons_zero, List.set_cons_succ]
          refine wpAnyH_take (i := 21) (oi := { dst := some 118, op := Go.Op.fieldAddr 45 (Go.Operand.tmp 2) 1, type := 0, pos := "ref.go:129", after := #[{ on := 30, ground := Go.Ground.gcOnly Go.Departure.lateStores }], guard := none }) (v := ?_) rfl (by kernel_rfl) (by kernel_rfl) (by kernel_rfl) (fun _ _ _ h => h) (Or.inl ⟨by rfl, ?_⟩) hS ?_
          rotate_left
          · (intro w hSw; (try dsimp only at hSw); go_simp; (try with_reducible rfl))
          try simp only [Act.put, List.setIfInBounds_toArray, List.set_cons_zero, List.set_cons_succ]
          refine wpAnyH_take (i := 22) (oi := { dst := some 119, op := Go.Op.indexAddr 38 (Go.Operand.tmp 118) (Go.Operand.const (Go.Value.int Go.IntKind.i64 7)), type := 0, pos := "ref.go:129", after := #[{ on := 21, ground := Go.Ground.data }, { on := 30, ground := Go.Ground.gcOnly Go.Departure.lateStores }], guard := none }) (v := ?_) rfl (by kernel_rfl) (by kernel_rfl) (by kernel_rfl) (fun _ _ _ h => h) (Or.inl ⟨by rfl, ?_⟩) hS ?_
          rotate_left
          · (intro w hSw; (try dsimp only at hSw); go_simp; (try with_reducible rfl))
          try simp only [Act.put, List.setIfInBounds_toArray, List.set_cons_zero, List.set_cons_succ]
          refine wpAnyH_take (i := 23) (oi := { dst := some 120, op := Go.Op.load 23 (Go.Operand.tmp 119), type := 23, pos := "ref.go:129", after := #[{ on := 22, ground := Go.Ground.data }, { on := 30, ground := Go.Ground.gcOnly Go.Departure.lateStores }], guard := none }) (v := ?_) rfl (by kernel_rfl) (by kernel_rfl) (by kernel_rfl) (fun _ _ _ h => h) (Or.inl ⟨by rfl, ?_⟩) hS ?_
          rotate_left
          · (intro w hSw; (try dsimp only at hSw); go_simp; (try with_reducible rfl))
          try simp only [Act.put, List.setIfInBounds_toArray, List.set_cons_zero, List.set_cons_succ]
          refine wpAnyH_take (i := 24) (oi := { dst := some 11, op := Go.Op.assign (Go.Operand.tmp 99), type := 23, pos := "ref.go:129", after := #[{ on := 2, ground := Go.Ground.data }, { on := 0, ground := Go.Ground.phase }, { on := 1, ground := Go.Ground.phase }, { on := 2, ground := Go.Ground.phase }, { on := 3, ground := Go.Ground.textOnly Go.Departure.lateStores }, { on := 4, ground := Go.Ground.textOnly Go.Departure.lateStores }, { on := 5, ground := Go.Ground.textOnly Go.Departure.lateStores }, { on := 6, ground := Go.Ground.textOnly Go.Departure.lateStores }, { on := 7, ground := Go.Ground.textOnly Go.Departure.lateStores }, { on := 8, ground := Go.Ground.textOnly Go.Departure.lateStores }, { on := 9, ground := Go.Ground.textOnly Go.Departure.lateStores }, { on := 10, ground := Go.Ground.textOnly Go.Departure.lateStores }, { on := 11, ground := Go.Ground.textOnly Go.Departure.lateStores }, { on := 12, ground := Go.Ground.textOnly Go.Departure.lateStores }, { on := 13, ground := Go.Ground.textOnly Go.Departure.lateStores }, { on := 14, ground := Go.Ground.textOnly Go.Departure.lateStores }, { on := 15, ground := Go.Ground.textOnly Go.Departure.lateStores }, { on := 16, ground := Go.Ground.textOnly Go.Departure.lateStores }, { on := 17, ground := Go.Ground.textOnly Go.Departure.lateStores }, { on := 18, ground := Go.Ground.textOnly Go.Departure.lateStores }, { on := 19, ground := Go.Ground.textOnly Go.Departure.lateStores }, { on := 20, ground := Go.Ground.textOnly Go.Departure.lateStores }, { on := 21, ground := Go.Ground.textOnly Go.Departure.lateStores }, { on := 22, ground := Go.Ground.textOnly Go.Departure.lateStores }, { on := 23, ground := Go.Ground.textOnly Go.Departure.lateStores }], guard := none }) (v := ?_) rfl (by kernel_rfl) (by kernel_rfl) (by kernel_rfl) (fun _ _ _ h => h) (Or.inl ⟨by rfl, ?_⟩) hS ?_
          rotate_left
          · (intro w hSw; (try dsimp only at hSw); go_simp; (try with_reducible rfl))
          try simp only [Act.put, List.setIfInBounds_toArray, List.set_cons_zero, List.set_cons_succ]
          refine wpAnyH_take (i := 25) (oi := { dst := some 12, op := Go.Op.assign (Go.Operand.tmp 102), type := 23, pos := "ref.go:129", after := #[{ on := 5, ground := Go.Ground.data }, { on := 24, ground := Go.Ground.chain }, { on := 0, ground := Go.Ground.phase }, { on := 1, ground := Go.Ground.phase }, { on := 2, ground := Go.Ground.phase }, { on := 3, ground := Go.Ground.phase }, { on := 4, ground := Go.Ground.phase }, { on := 5, ground := Go.Ground.phase }, { on := 6, ground := Go.Ground.textOnly Go.Departure.lateStores }, { on := 7, ground := Go.Ground.textOnly Go.Departure.lateStores }, { on := 8, ground := Go.Ground.textOnly Go.Departure.lateStores }, { on := 9, ground := Go.Ground.textOnly Go.Departure.lateStores }, { on := 10, ground := Go.Ground.textOnly Go.Departure.lateStores }, { on := 11, ground := Go.Ground.textOnly Go.Departure.lateStores }, { on := 12, ground := Go.Ground.textOnly Go.Departure.lateStores }, { on := 13, ground := Go.Ground.textOnly Go.Departure.lateStores }, { on := 14, ground := Go.Ground.textOnly Go.Departure.lateStores }, { on := 15, ground := Go.Ground.textOnly Go.Departure.lateStores }, { on := 16, ground := Go.Ground.textOnly Go.Departure.lateStores }, { on := 17, ground := Go.Ground.textOnly Go.Departure.lateStores }, { on := 18, ground := Go.Ground.textOnly Go.Departure.lateStores }, { on := 19, ground := Go.Ground.textOnly Go.Departure.lateStores }, { on := 20, ground := Go.Ground.textOnly Go.Departure.lateStores }, { on := 21, ground := Go.Ground.textOnly Go.Departure.lateStores }, { on := 22, ground := Go.Ground.textOnly Go.Departure.lateStores }, { on := 23, ground := Go.Ground.textOnly Go.Departure.lateStores }, { on := 24, ground := Go.Ground.phase }], guard := none }) (v := ?_) rfl (by kernel_rfl) (by kernel_rfl) (by kernel_rfl) (fun _ _ _ h => h) (Or.inl ⟨by rfl, ?_⟩) hS ?_
          rotate_left
          · (intro w hSw; (try dsimp only at hSw); go_simp; (try with_reducible rfl))
          try simp only [Act.put, List.setIfInBounds_toArray, List.set_cons_zero, List.set_cons_succ]
          refine wpAnyH_take (i := 26) (oi := { dst := some 13, op := Go.Op.assign (Go.Operand.tmp 105), type := 23, pos := "ref.go:129", after := #[{ on := 8, ground := Go.Ground.data }, { on := 25, ground := Go.Ground.chain }, { on := 0, ground := Go.Ground.phase }, { on := 1, ground := Go.Ground.phase }, { on := 2, ground := Go.Ground.phase }, { on := 3, ground := Go.Ground.phase }, { on := 4, ground := Go.Ground.phase }, { on := 5, ground := Go.Ground.phase }, { on := 6, ground := Go.Ground.phase }, { on := 7, ground := Go.Ground.phase }, { on := 8, ground := Go.Ground.phase }, { on := 9, ground := Go.Ground.textOnly Go.Departure.lateStores }, { on := 10, ground := Go.Ground.textOnly Go.Departure.lateStores }, { on := 11, ground := Go.Ground.textOnly Go.Departure.lateStores }, { on := 12, ground := Go.Ground.textOnly Go.Departure.lateStores }, { on := 13, ground := Go.Ground.textOnly Go.Departure.lateStores }, { on := 14, ground := Go.Ground.textOnly Go.Departure.lateStores }, { on := 15, ground := Go.Ground.textOnly Go.Departure.lateStores }, { on := 16, ground := Go.Ground.textOnly Go.Departure.lateStores }, { on := 17, ground := Go.Ground.textOnly Go.Departure.lateStores }, { on := 18, ground := Go.Ground.textOnly Go.Departure.lateStores }, { on := 19, ground := Go.Ground.textOnly Go.Departure.lateStores }, { on := 20, ground := Go.Ground.textOnly Go.Departure.lateStores }, { on := 21, ground := Go.Ground.textOnly Go.Departure.lateStores }, { on := 22, ground := Go.Ground.textOnly Go.Departure.lateStores }, { on := 23, ground := Go.Ground.textOnly Go.Departure.lateStores }, { on := 24, ground := Go.Ground.phase }, { on := 25, ground := Go.Ground.phase }], guard := none }) (v := ?_) rfl (by kernel_rfl) (by kernel_rfl) (by kernel_rfl) (fun _ _ _ h => h) (Or.inl ⟨by rfl, ?_⟩) hS ?_
          rotate_left
          · (intro w hSw; (try dsimp only at hSw); go_simp; (try with_reducible rfl))
          try simp only [Act.put, List.setIfInBounds_toArray, List.set_cons_zero, List.set_cons_succ]
          refine wpAnyH_take (i := 27) (oi := { dst := some 14, op := Go.Op.assign (Go.Operand.tmp 108), type := 23, pos := "ref.go:129", after := #[{ on := 11, ground := Go.Ground.data }, { on := 26, ground := Go.Ground.chain }, { on := 0, ground := Go.Ground.phase }, { on := 1, ground := Go.Ground.phase }, { on := 2, ground := Go.Ground.phase }, { on := 3, ground := Go.Ground.phase }, { on := 4, ground := Go.Ground.phase }, { on := 5, ground := Go.Ground.phase }, { on := 6, ground := Go.Ground.phase }, { on := 7, ground := Go.Ground.phase }, { on := 8, ground := Go.Ground.phase }, { on := 9, ground := Go.Ground.phase }, { on := 10, ground := Go.Ground.phase }, { on := 11, ground := Go.Ground.phase }, { on := 12, ground := Go.Ground.textOnly Go.Departure.lateStores }, { on := 13, ground := Go.Ground.textOnly Go.Departure.lateStores }, { on := 14, ground := Go.Ground.textOnly Go.Departure.lateStores }, { on := 15, ground := Go.Ground.textOnly Go.Departure.lateStores }, { on := 16, ground := Go.Ground.textOnly Go.Departure.lateStores }, { on := 17, ground := Go.Ground.textOnly Go.Departure.lateStores }, { on := 18, ground := Go.Ground.textOnly Go.Departure.lateStores }, { on := 19, ground := Go.Ground.textOnly Go.Departure.lateStores }, { on := 20, ground := Go.Ground.textOnly Go.Departure.lateStores }, { on := 21, ground := Go.Ground.textOnly Go.Departure.lateStores }, { on := 22, ground := Go.Ground.textOnly Go.Departure.lateStores }, { on := 23, ground := Go.Ground.textOnly Go.Departure.lateStores }, { on := 24, ground := Go.Ground.phase }, { on := 25, ground := Go.Ground.phase }, { on := 26, ground := Go.Ground.phase }], guard := none }) (v := ?_) rfl (by kernel_rfl) (by kernel_rfl) (by kernel_rfl) (fun _ _ _ h => h) (Or.inl ⟨by rfl, ?_⟩) hS ?_
          rotate_left
          · (intro w hSw; (try dsimp only at hSw); go_simp; (try with_reducible rfl))
          try simp only [Act.put, List.setIfInBounds_toArray, List.set_cons_zero, List.set_cons_succ]
          refine wpAnyH_take (i := 28) (oi := { dst := some 15, op := Go.Op.assign (Go.Operand.tmp 111), type := 23, pos := "ref.go:129", after := #[{ on := 14, ground := Go.Ground.data }, { on := 27, ground := Go.Ground.chain }, { on := 0, ground := Go.Ground.phase }, { on := 1, ground := Go.Ground.phase }, { on := 2, ground := Go.Ground.phase }, { on := 3, ground := Go.Ground.phase }, { on := 4, ground := Go.Ground.phase }, { on := 5, ground := Go.Ground.phase }, { on := 6, ground := Go.Ground.phase }, { on := 7, ground := Go.Ground.phase }, { on := 8, ground := Go.Ground.phase }, { on := 9, ground := Go.Ground.phase }, { on := 10, ground := Go.Ground.phase }, { on := 11, ground := Go.Ground.phase }, { on := 12, ground := Go.Ground.phase }, { on := 13, ground := Go.Ground.phase }, { on := 14, ground := Go.Ground.phase }, { on := 15, ground := Go.Ground.textOnly Go.Departure.lateStores }, { on := 16, ground := Go.Ground.textOnly Go.Departure.lateStores }, { on := 17, ground := Go.Ground.textOnly Go.Departure.lateStores }, { on := 18, ground := Go.Ground.textOnly Go.Departure.lateStores }, { on := 19, ground := Go.Ground.textOnly Go.Departure.lateStores }, { on := 20, ground := Go.Ground.textOnly Go.Departure.lateStores }, { on := 21, ground := Go.Ground.textOnly Go.Departure.lateStores }, { on := 22, ground := Go.Ground.textOnly Go.Departure.lateStores }, { on := 23, ground := Go.Ground.textOnly Go.Departure.lateStores }, { on := 24, ground := Go.Ground.phase }, { on := 25, ground := Go.Ground.phase }, { on := 26, ground := Go.Ground.phase }, { on := 27, ground := Go.Ground.phase }], guard := none }) (v := ?_) rfl (by kernel_rfl) (by kernel_rfl) (by kernel_rfl) (fun _ _ _ h => h) (Or.inl ⟨by rfl, ?_⟩) hS ?_
          rotate_left
          · (intro w hSw; (try dsimp only at hSw); go_simp; (try with_reducible rfl))
          try simp only [Act.put, List.setIfInBounds_toArray, List.set_cons_zero, List.set_cons_succ]
          refine wpAnyH_take (i := 29) (oi := { dst := some 16, op := Go.Op.assign (Go.Operand.tmp 114), type := 23, pos := "ref.go:129", after := #[{ on := 17, ground := Go.Ground.data }, { on := 28, ground := Go.Ground.chain }, { on := 0, ground := Go.Ground.phase }, { on := 1, ground := Go.Ground.phase }, { on := 2, ground := Go.Ground.phase }, { on := 3, ground := Go.Ground.phase }, { on := 4, ground := Go.Ground.phase }, { on := 5, ground := Go.Ground.phase }, { on := 6, ground := Go.Ground.phase }, { on := 7, ground := Go.Ground.phase }, { on := 8, ground := Go.Ground.phase }, { on := 9, ground := Go.Ground.phase }, { on := 10, ground := Go.Ground.phase }, { on := 11, ground := Go.Ground.phase }, { on := 12, ground := Go.Ground.phase }, { on := 13, ground := Go.Ground.phase }, { on := 14, ground := Go.Ground.phase }, { on := 15, ground := Go.Ground.phase }, { on := 16, ground := Go.Ground.phase }, { on := 17, ground := Go.Ground.phase }, { on := 18, ground := Go.Ground.textOnly Go.Departure.lateStores }, { on := 19, ground := Go.Ground.textOnly Go.Departure.lateStores }, { on := 20, ground := Go.Ground.textOnly Go.Departure.lateStores }, { on := 21, ground := Go.Ground.textOnly Go.Departure.lateStores }, { on := 22, ground := Go.Ground.textOnly Go.Departure.lateStores }, { on := 23, ground := Go.Ground.textOnly Go.Departure.lateStores }, { on := 24, ground := Go.Ground.phase }, { on := 25, ground := Go.Ground.phase }, { on := 26, ground := Go.Ground.phase }, { on := 27, ground := Go.Ground.phase }, { on := 28, ground := Go.Ground.phase }], guard := none }) (v := ?_) rfl (by kernel_rfl) (by kernel_rfl) (by kernel_rfl) (fun _ _ _ h => h) (Or.inl ⟨by rfl, ?_⟩) hS ?_
          rotate_left
          · (intro w hSw; (try dsimp only at hSw); go_simp; (try with_reducible rfl))
          try simp only [Act.put, List.setIfInBounds_toArray, List.set_cons_zero, List.set_cons_succ]
          refine wpAnyH_take (i := 30) (oi := { dst := some 17, op := Go.Op.assign (Go.Operand.tmp 117), type := 23, pos := "ref.go:129", after := #[{ on := 20, ground := Go.Ground.data }, { on := 29, ground := Go.Ground.chain }, { on := 0, ground := Go.Ground.phase }, { on := 1, ground := Go.Ground.phase }, { on := 2, ground := Go.Ground.phase }, { on := 3, ground := Go.Ground.phase }, { on := 4, ground := Go.Ground.phase }, { on := 5, ground := Go.Ground.phase }, { on := 6, ground := Go.Ground.phase }, { on := 7, ground := Go.Ground.phase }, { on := 8, ground := Go.Ground.phase }, { on := 9, ground := Go.Ground.phase }, { on := 10, ground := Go.Ground.phase }, { on := 11, ground := Go.Ground.phase }, { on := 12, ground := Go.Ground.phase }, { on := 13, ground := Go.Ground.phase }, { on := 14, ground := Go.Ground.phase }, { on := 15, ground := Go.Ground.phase }, { on := 16, ground := Go.Ground.phase }, { on := 17, ground := Go.Ground.phase }, { on := 18, ground := Go.Ground.phase }, { on := 19, ground := Go.Ground.phase }, { on := 20, ground := Go.Ground.phase }, { on := 21, ground := Go.Ground.textOnly Go.Departure.lateStores }, { on := 22, ground := Go.Ground.textOnly Go.Departure.lateStores }, { on := 23, ground := Go.Ground.textOnly Go.Departure.lateStores }, { on := 24, ground := Go.Ground.phase }, { on := 25, ground := Go.Ground.phase }, { on := 26, ground := Go.Ground.phase }, { on := 27, ground := Go.Ground.phase }, { on := 28, ground := Go.Ground.phase }, { on := 29, ground := Go.Ground.phase }], guard := none }) (v := ?_) rfl (by kernel_rfl) (by kernel_rfl) (by kernel_rfl) (fun _ _ _ h => h) (Or.inl ⟨by rfl, ?_⟩) hS ?_
          rotate_left
          · (intro w hSw; (try dsimp only at hSw); go_simp; (try with_reducible rfl))
          try simp only [Act.put, List.setIfInBounds_toArray, List.set_cons_zero, List.set_cons_succ]
          refine wpAnyH_take (i := 31) (oi := { dst := some 18, op := Go.Op.assign (Go.Operand.tmp 120), type := 23, pos := "ref.go:129", after := #[{ on := 23, ground := Go.Ground.data }, { on := 30, ground := Go.Ground.chain }, { on := 0, ground := Go.Ground.phase }, { on := 1, ground := Go.Ground.phase }, { on := 2, ground := Go.Ground.phase }, { on := 3, ground := Go.Ground.phase }, { on := 4, ground := Go.Ground.phase }, { on := 5, ground := Go.Ground.phase }, { on := 6, ground := Go.Ground.phase }, { on := 7, ground := Go.Ground.phase }, { on := 8, ground := Go.Ground.phase }, { on := 9, ground := Go.Ground.phase }, { on := 10, ground := Go.Ground.phase }, { on := 11, ground := Go.Ground.phase }, { on := 12, ground := Go.Ground.phase }, { on := 13, ground := Go.Ground.phase }, { on := 14, ground := Go.Ground.phase }, { on := 15, ground := Go.Ground.phase }, { on := 16, ground := Go.Ground.phase }, { on := 17, ground := Go.Ground.phase }, { on := 18, ground := Go.Ground.phase }, { on := 19, ground := Go.Ground.phase }, { on := 20, ground := Go.Ground.phase }, { on := 21, ground := Go.Ground.phase }, { on := 22, ground := Go.Ground.phase }, { on := 23, ground := Go.Ground.phase }, { on := 24, ground := Go.Ground.phase }, { on := 25, ground := Go.Ground.phase }, { on := 26, ground := Go.Ground.phase }, { on := 27, ground := Go.Ground.phase }, { on := 28, ground := Go.Ground.phase }, { on := 29, ground := Go.Ground.phase }, { on := 30, ground := Go.Ground.phase }], guard := none }) (v := ?_) rfl (by kernel_rfl) (by kernel_rfl) (by kernel_rfl) (fun _ _ _ h => h) (Or.inl ⟨by rfl, ?_⟩) hS ?_
          rotate_left
          · (intro w hSw; (try dsimp only at hSw); go_simp; (try with_reducible rfl))
          try simp only [Act.put, List.setIfInBounds_toArray, List.set_cons_zero, List.set_cons_succ]
          refine wpAnyH_done (by kernel_rfl) ?_ _
          have hE := hE0.drew
          clear hS hE0
          go_wp2_with (first | go_skip)
          go_loopw [11, 12, 13, 14, 15, 16, 17, 18, 19] (fun a b c' d e f g' h i wr => VRel bj v (u32c bw 43 (wst bj 64) :: u32c bt 45 (tabH v) :: row 23 1 (.slice (some ⟨g, 0, none⟩) n4 c) n4 ((wordsOf p n4).map u32v) :: pt br (.cells rs.toArray 32 (0, 0)) :: l) a b c' d e f g' h i wr) (fun _ _ _ _ _ _ _ _ i _ => 64 - (intOf i).toNat)
          case atStart => exact ⟨0, v, by omega, rfl, rfl, rfl, rfl, rfl, rfl, rfl, rfl, rfl, rfl, hE⟩
          case round =>
            clear hE
            obtain ⟨k, u, hk, rfl, hu, rfl, rfl, rfl, rfl, rfl, rfl, rfl, rfl, hE⟩ := hrel
            have huo : u.ok := hu ▸ (rounds_ok hvok k).1
            have Hu := SL.hid hu
            clear hu
            by_cases hk64 : k < 64
            · as_aux_lemma =>
              have ik : (k : Int) < 64 := by omega
              have hrn := rounds_next bj v k
              rw [← Hu.out] at hrn
              have Hcells : RowKit.Hid (∀ (wx : World), Ent (u32c bw 43 (wst bj 64) :: u32c bt 45 (tabH v) :: row 23 1 (.slice (some ⟨g, 0, none⟩) n4 c) n4 ((wordsOf p n4).map u32v) :: pt br (.cells rs.toArray 32 (0, 0)) :: l) wx → wx.cell? ⟨bt, k, none⟩ = some (.int .u32 ((kTab.getD k 0 : Nat) : Int)) ∧ wx.cell? ⟨bw, k, none⟩ = some (.int .u32 ((nextW bj k : Nat) : Int))) := SL.hid (fun wx hx =>
                ⟨(u32_at hx 1 rfl (k := k) (show k < 72 by omega)).trans (by rw [tabH_k v hk64]), (u32_at hx 0 rfl (k := k) (by rw [wst_len]; exact hk64)).trans (by rw [Hget.out k hk64])⟩)
              generalize kTab.getD k 0 = kc at *
              generalize nextW bj k = xw at *
              have hrd : rnd u kc xw = ⟨(t1 u kc xw + t2 u) % 4294967296, u.a, u.b, u.c, (u.d + t1 u kc xw) % 4294967296, u.e, u.f, u.g⟩ := rfl
              rw [hrd] at hrn
              have e1 := bS1_int huo.e
              have e2 : bits .xor .u32 (bits .and .u32 (u.e : Int) (u.f : Int)) (bits .and .u32 (bits .xor .u32 (if IntKind.u32.signed = true then -1 else IntKind.u32.max) (u.e : Int)) (u.g : Int)) = ((chs u.e u.f u.g : Nat) : Int) := chs_int huo.e huo.f huo.g
              have e3 := sum_t1 u kc xw
              have e4 := bS0_int huo.a
              have e5 := maj_int huo.a huo.b huo.c
              have e6 := sum_t2 u
              have g1 := sum_u32 (t1 u kc xw) (t2 u)
              have g2 := sum_u32 u.d (t1 u kc xw)
              generalize (t1 u kc xw + t2 u) % 4294967296 = na at *
              generalize (u.d + t1 u kc xw) % 4294967296 = ne at *
              generalize t1 u kc xw = T1 at *
              generalize t2 u = T2 at *
              have Hrn := SL.hid hrn
              clear hrn hrd
              go_wp2_with (first | go_skip)
              have hED := hE.drew
              refine wp_region_held_drew (S := (fun w' => w'.cell? ⟨bt, k, none⟩ = some (.int .u32 (kc : Int)) ∧ w'.cell? ⟨bw, k, none⟩ = some (.int .u32 (xw : Int)))) (by kernel_rfl) (Hcells.out _ hED) (fun hS => ?_)
              refine wpAnyH_take (i := 0) (oi := { dst := some 125, op := Go.Op.move (Go.Operand.tmp 18), type := 23, pos := "ref.go:131", after := #[], guard := none }) (v := ?_) rfl (by kernel_rfl) (by kernel_rfl) (by kernel_rfl) (fun _ _ _ h => h) (Or.inl ⟨by rfl, ?_⟩) hS ?_
              rotate_left
              · (intro w hSw; (try dsimp only at hSw); go_simp; (try with_reducible rfl))
              try simp only [Act.put, List.setIfInBounds_toArray, List.set_cons_zero, List.set_cons_succ]
              refine wpAnyH_take (i := 1) (oi := { dst := some 126, op := Go.Op.move (Go.Operand.tmp 15), type := 23, pos := "ref.go:131", after := #[], guard := none }) (v := ?_) rfl (by kernel_rfl) (by kernel_rfl) (by kernel_rfl) (fun _ _ _ h => h) (Or.inl ⟨by rfl, ?_⟩) hS ?_
              rotate_left
              · (intro w hSw; (try dsimp only at hSw); go_simp; (try with_reducible rfl))
              try simp only [Act.put, List.setIfInBounds_toArray, List.set_cons_zero, List.set_cons_succ]
              refine wpAnyH_take (i := 3) (oi := { dst := some 128, op := Go.Op.move (Go.Operand.tmp 15), type := 23, pos := "ref.go:131", after := #[], guard := none }) (v := ?_) rfl (by kernel_rfl) (by kernel_rfl) (by kernel_rfl) (fun _ _ _ h => h) (Or.inl ⟨by rfl, ?_⟩) hS ?_
              rotate_left
              · (intro w hSw; (try dsimp only at hSw); go_simp; (try with_reducible rfl))
              try simp only [Act.put, List.setIfInBounds_toArray, List.set_cons_zero, List.set_cons_succ]
              refine wpAnyH_take (i := 6) (oi := { dst := some 131, op := Go.Op.move (Go.Operand.tmp 15), type := 23, pos := "ref.go:131", after := #[], guard := none }) (v := ?_) rfl (by kernel_rfl) (by kernel_rfl) (by kernel_rfl) (fun _ _ _ h => h) (Or.inl ⟨by rfl, ?_⟩) hS ?_
              rotate_left
              · (intro w hSw; (try dsimp only at hSw); go_simp; (try with_reducible rfl))
              try simp only [Act.put, List.setIfInBounds_toArray, List.set_cons_zero, List.set_cons_succ]
              refine wpAnyH_take (i := 10) (oi := { dst := some 135, op := Go.Op.move (Go.Operand.tmp 15), type := 23, pos := "ref.go:131", after := #[], guard := none }) (v := ?_) rfl (by kernel_rfl) (by kernel_rfl) (by kernel_rfl) (fun _ _ _ h => h) (Or.inl ⟨by rfl, ?_⟩) hS ?_
              rotate_left
              · (intro w hSw; (try dsimp only at hSw); go_simp; (try with_reducible rfl))
              try simp only [Act.put, List.setIfInBounds_toArray, List.set_cons_zero, List.set_cons_succ]
              refine wpAnyH_take (i := 11) (oi := { dst := some 136, op := Go.Op.move (Go.Operand.tmp 16), type := 23, pos := "ref.go:131", after := #[], guard := none }) (v := ?_) rfl (by kernel_rfl) (by kernel_rfl) (by kernel_rfl) (fun _ _ _ h => h) (Or.inl ⟨by rfl, ?_⟩) hS ?_
              rotate_left
              · (intro w hSw; (try dsimp only at hSw); go_simp; (try with_reducible rfl))
              try simp only [Act.put, List.setIfInBounds_toArray, List.set_cons_zero, List.set_cons_succ]
              refine wpAnyH_take (i := 12) (oi := { dst := some 137, op := Go.Op.binOp Go.BinOp.and 23 (Go.Operand.tmp 135) (Go.Operand.tmp 136) 23, type := 23, pos := "ref.go:131", after := #[{ on := 10, ground := Go.Ground.data }, { on := 11, ground := Go.Ground.data }], guard := none }) (v := ?_) rfl (by kernel_rfl) (by kernel_rfl) (by kernel_rfl) (fun _ _ _ h => h) (Or.inl ⟨by rfl, ?_⟩) hS ?_
              rotate_left
              · (intro w hSw; (try dsimp only at hSw); go_simp; (try with_reducible rfl))
              try simp only [Act.put, List.setIfInBounds_toArray, List.set_cons_zero, List.set_cons_succ]
              refine wpAnyH_take (i := 13) (oi := { dst := some 138, op := Go.Op.move (Go.Operand.tmp 15), type := 23, pos := "ref.go:131", after := #[], guard := none }) (v := ?_) rfl (by kernel_rfl) (by kernel_rfl) (by kernel_rfl) (fun _ _ _ h => h) (Or.inl ⟨by rfl, ?_⟩) hS ?_
              rotate_left
              · (intro w hSw; (try dsimp only at hSw); go_simp; (try with_reducible rfl))
              try simp only [Act.put, List.setIfInBounds_toArray, List.set_cons_zero, List.set_cons_succ]
              refine wpAnyH_take (i := 14) (oi := { dst := some 139, op := Go.Op.unOp Go.UnOp.xor 23 (Go.Operand.tmp 138), type := 23, pos := "ref.go:131", after := #[{ on := 13, ground := Go.Ground.data }], guard := none }) (v := ?_) rfl (by kernel_rfl) (by kernel_rfl) (by kernel_rfl) (fun _ _ _ h => h) (Or.inl ⟨by rfl, ?_⟩) hS ?_
              rotate_left
              · (intro w hSw; (try dsimp only at hSw); go_simp; (try with_reducible rfl))
              try simp only [Act.put, List.setIfInBounds_toArray, List.set_cons_zero, List.set_cons_succ]
              refine wpAnyH_take (i := 15) (oi := { dst := some 140, op := Go.Op.move (Go.Operand.tmp 17), type := 23, pos := "ref.go:131", after := #[], guard := none }) (v := ?_) rfl (by kernel_rfl) (by kernel_rfl) (by kernel_rfl) (fun _ _ _ h => h) (Or.inl ⟨by rfl, ?_⟩) hS ?_
              rotate_left
              · (intro w hSw; (try dsimp only at hSw); go_simp; (try with_reducible rfl))
              try simp only [Act.put, List.setIfInBounds_toArray, List.set_cons_zero, List.set_cons_succ]
              refine wpAnyH_take (i := 16) (oi := { dst := some 141, op := Go.Op.binOp Go.BinOp.and 23 (Go.Operand.tmp 139) (Go.Operand.tmp 140) 23, type := 23, pos := "ref.go:131", after := #[{ on := 14, ground := Go.Ground.data }, { on := 15, ground := Go.Ground.data }], guard := none }) (v := ?_) rfl (by kernel_rfl) (by kernel_rfl) (by kernel_rfl) (fun _ _ _ h => h) (Or.inl ⟨by rfl, ?_⟩) hS ?_
              rotate_left
              · (intro w hSw; (try dsimp only at hSw); go_simp; (try with_reducible rfl))
              try simp only [Act.put, List.setIfInBounds_toArray, List.set_cons_zero, List.set_cons_succ]
              refine wpAnyH_take (i := 17) (oi := { dst := some 142, op := Go.Op.binOp Go.BinOp.xor 23 (Go.Operand.tmp 137) (Go.Operand.tmp 141) 23, type := 23, pos := "ref.go:131", after := #[{ on := 12, ground := Go.Ground.data }, { on := 16, ground := Go.Ground.data }], guard := none }) (v := ?_) rfl (by kernel_rfl) (by kernel_rfl) (by kernel_rfl) (fun _ _ _ h => h) (Or.inl ⟨by rfl, ?_⟩) hS ?_
              rotate_left
              · (intro w hSw; (try dsimp only at hSw); go_simp; (try with_reducible rfl))
              try simp only [Act.put, List.setIfInBounds_toArray, List.set_cons_zero, List.set_cons_succ]
              refine wpAnyH_take (i := 19) (oi := { dst := some 144, op := Go.Op.move (Go.Operand.tmp 19), type := 3, pos := "ref.go:131", after := #[], guard := none }) (v := ?_) rfl (by kernel_rfl) (by kernel_rfl) (by kernel_rfl) (fun _ _ _ h => h) (Or.inl ⟨by rfl, ?_⟩) hS ?_
              rotate_left
              · (intro w hSw; (try dsimp only at hSw); go_simp; (try with_reducible rfl))
              try simp only [Act.put, List.setIfInBounds_toArray, List.set_cons_zero, List.set_cons_succ]
              refine wpAnyH_take (i := 20) (oi := { dst := some 145, op := Go.Op.fieldAddr 45 (Go.Operand.tmp 2) 0, type := 0, pos := "ref.go:131", after := #[], guard := none }) (v := ?_) rfl (by kernel_rfl) (by kernel_rfl) (by kernel_rfl) (fun _ _ _ h => h) (Or.inl ⟨by rfl, ?_⟩) hS ?_
              rotate_left
              · (intro w hSw; (try dsimp only at hSw); go_simp; (try with_reducible rfl))
              try simp only [Act.put, List.setIfInBounds_toArray, List.set_cons_zero, List.set_cons_succ]
              refine wpAnyH_take (i := 21) (oi := { dst := some 146, op := Go.Op.indexAddr 43 (Go.Operand.tmp 145) (Go.Operand.tmp 144), type := 0, pos := "ref.go:131", after := #[{ on := 20, ground := Go.Ground.data }, { on := 19, ground := Go.Ground.data }], guard := none }) (v := ?_) rfl (by kernel_rfl) (by kernel_rfl) (by kernel_rfl) (fun _ _ _ h => h) (Or.inl ⟨by rfl, ?_⟩) hS ?_
              rotate_left
              · (intro w hSw; (try dsimp only at hSw); go_simp; (try with_reducible rfl))
              try simp only [Act.put, List.setIfInBounds_toArray, List.set_cons_zero, List.set_cons_succ]
              refine wpAnyH_take (i := 22) (oi := { dst := some 147, op := Go.Op.load 23 (Go.Operand.tmp 146), type := 23, pos := "ref.go:131", after := #[{ on := 21, ground := Go.Ground.data }], guard := none }) (v := ?_) rfl (by kernel_rfl) (by kernel_rfl) (by kernel_rfl) (fun _ _ _ h => h) (Or.inl ⟨by rfl, ?_⟩) hS ?_
              rotate_left
              · (intro w hSw; (try dsimp only at hSw); go_simp; (try with_reducible rfl))
              try simp only [Act.put, List.setIfInBounds_toArray, List.set_cons_zero, List.set_cons_succ]
              refine wpAnyH_take (i := 24) (oi := { dst := some 149, op := Go.Op.move (Go.Operand.tmp 19), type := 3, pos := "ref.go:131", after := #[], guard := none }) (v := ?_) rfl (by kernel_rfl) (by kernel_rfl) (by kernel_rfl) (fun _ _ _ h => h) (Or.inl ⟨by rfl, ?_⟩) hS ?_
              rotate_left
              · (intro w hSw; (try dsimp only at hSw); go_simp; (try with_reducible rfl))
              try simp only [Act.put, List.setIfInBounds_toArray, List.set_cons_zero, List.set_cons_succ]
              refine wpAnyH_take (i := 25) (oi := { dst := some 150, op := Go.Op.indexAddr 43 (Go.Operand.tmp 7) (Go.Operand.tmp 149), type := 0, pos := "ref.go:131", after := #[{ on := 24, ground := Go.Ground.data }], guard := none }) (v := ?_) rfl (by kernel_rfl) (by kernel_rfl) (by kernel_rfl) (fun _ _ _ h => h) (Or.inl ⟨by rfl, ?_⟩) hS ?_
              rotate_left
              · (intro w hSw; (try dsimp only at hSw); go_simp; (try with_reducible rfl))
              try simp only [Act.put, List.setIfInBounds_toArray, List.set_cons_zero, List.set_cons_succ]
              refine wpAnyH_take (i := 26) (oi := { dst := some 151, op := Go.Op.load 23 (Go.Operand.tmp 150), type := 23, pos := "ref.go:131", after := #[{ on := 25, ground := Go.Ground.data }], guard := none }) (v := ?_) rfl (by kernel_rfl) (by kernel_rfl) (by kernel_rfl) (fun _ _ _ h => h) (Or.inl ⟨by rfl, ?_⟩) hS ?_
              rotate_left
              · (intro w hSw; (try dsimp only at hSw); go_simp; (try with_reducible rfl))
              try simp only [Act.put, List.setIfInBounds_toArray, List.set_cons_zero, List.set_cons_succ]
              refine wpAnyH_ready (rs := [2]) (by kernel_rfl) (by simp) ?_
              refine (AllReadyH.cons (o := { dst := some 127, op := Go.Op.call { callee := Go.Callee.value (Go.Operand.func 21), args := #[Go.Operand.tmp 126, Go.Operand.const (Go.Value.int Go.IntKind.i64 6)], argTypes := #[23, 3] }, type := 23, pos := "ref.go:131", after := #[{ on := 1, ground := Go.Ground.data }], guard := none }) rfl (fun K hK => ?_) AllReadyH.nil)
              (go_simp; go_at_call 21; refine (rotr_6 u.e huo.e _).mono ?_; rintro e w4 ⟨_, rfl, rfl, hk1⟩; have hE2 := hk1 _ hED; clear hk1)
              refine hK.out _ _ (Hcells.out _ hE2) (fun hS => ?_)
              clear hK K
              try simp only [Act.put, List.setIfInBounds_toArray, List.set_cons_zero, List.set_cons_succ]
              refine wpAnyH_ready (rs := [4]) (by kernel_rfl) (by simp) ?_
              refine (AllReadyH.cons (o := { dst := some 129, op := Go.Op.call { callee := Go.Callee.value (Go.Operand.func 21), args := #[Go.Operand.tmp 128, Go.Operand.const (Go.Value.int Go.IntKind.i64 11)], argTypes := #[23, 3] }, type := 23, pos := "ref.go:131", after := #[{ on := 3, ground := Go.Ground.data }, { on := 2, ground := Go.Ground.chain }], guard := none }) rfl (fun K hK => ?_) AllReadyH.nil)
              (go_simp; go_at_call 21; refine (rotr_11 u.e huo.e _).mono ?_; rintro e w4 ⟨_, rfl, rfl, hk1⟩; have hE3 := hk1 _ hE2; clear hk1)
              refine hK.out _ _ (Hcells.out _ hE3) (fun hS => ?_)
              clear hK K
              try simp only [Act.put, List.setIfInBounds_toArray, List.set_cons_zero, List.set_cons_succ]
              refine wpAnyH_take (i := 5) (oi := { dst := some 130, op := Go.Op.binOp Go.BinOp.xor 23 (Go.Operand.tmp 127) (Go.Operand.tmp 129) 23, type := 23, pos := "ref.go:131", after := #[{ on := 2, ground := Go.Ground.data }, { on := 4, ground := Go.Ground.data }], guard := none }) (v := ?_) rfl (by kernel_rfl) (by kernel_rfl) (by kernel_rfl) (fun _ _ _ h => h) (Or.inl ⟨by rfl, ?_⟩) hS ?_
              rotate_left
              · (intro w hSw; (try dsimp only at hSw); go_simp; (try with_reducible rfl))
              try simp only [Act.put, List.setIfInBounds_toArray, List.set_cons_zero, List.set_cons_succ]
              refine wpAnyH_ready (rs := [7]) (by kernel_rfl) (by simp) ?_
              refine (AllReadyH.cons (o := { dst := some 132, op := Go.Op.call { callee := Go.Callee.value (Go.Operand.func 21), args := #[Go.Operand.tmp 131, Go.Operand.const (Go.Value.int Go.IntKind.i64 25)], argTypes := #[23, 3] }, type := 23, pos := "ref.go:131", after := #[{ on := 6, ground := Go.Ground.data }, { on := 4, ground := Go.Ground.chain }], guard := none }) rfl (fun K hK => ?_) AllReadyH.nil)
              (go_simp; go_at_call 21; refine (rotr_25 u.e huo.e _).mono ?_; rintro e w4 ⟨_, rfl, rfl, hk1⟩; have hE4 := hk1 _ hE3; clear hk1)
              refine hK.out _ _ (Hcells.out _ hE4) (fun hS => ?_)
              clear hK K
              try simp only [Act.put, List.setIfInBounds_toArray, List.set_cons_zero, List.set_cons_succ]
              refine wpAnyH_take (i := 8) (oi := { dst := some 133, op := Go.Op.binOp Go.BinOp.xor 23 (Go.Operand.tmp 130) (Go.Operand.tmp 132) 23, type := 23, pos := "ref.go:131", after := #[{ on := 5, ground := Go.Ground.data }, { on := 7, ground := Go.Ground.data }], guard := none }) (v := ?_) rfl (by kernel_rfl) (by kernel_rfl) (by kernel_rfl) (fun _ _ _ h => h) (Or.inl ⟨by rfl, ?_⟩) hS ?_
              rotate_left
              · (intro w hSw; (try dsimp only at hSw); go_simp; (try with_reducible rfl))
              try simp only [Act.put, List.setIfInBounds_toArray, List.set_cons_zero, List.set_cons_succ]
              refine wpAnyH_take (i := 9) (oi := { dst := some 134, op := Go.Op.binOp Go.BinOp.add 23 (Go.Operand.tmp 125) (Go.Operand.tmp 133) 23, type := 23, pos := "ref.go:131", after := #[{ on := 0, ground := Go.Ground.data }, { on := 8, ground := Go.Ground.data }], guard := none }) (v := ?_) rfl (by kernel_rfl) (by kernel_rfl) (by kernel_rfl) (fun _ _ _ h => h) (Or.inl ⟨by rfl, ?_⟩) hS ?_
              rotate_left
              · (intro w hSw; (try dsimp only at hSw); go_simp; (try with_reducible rfl))
              try simp only [Act.put, List.setIfInBounds_toArray, List.set_cons_zero, List.set_cons_succ]
              refine wpAnyH_take (i := 18) (oi := { dst := some 143, op := Go.Op.binOp Go.BinOp.add 23 (Go.Operand.tmp 134) (Go.Operand.tmp 142) 23, type := 23, pos := "ref.go:131", after := #[{ on := 9, ground := Go.Ground.data }, { on := 17, ground := Go.Ground.data }], guard := none }) (v := ?_) rfl (by kernel_rfl) (by kernel_rfl) (by kernel_rfl) (fun _ _ _ h => h) (Or.inl ⟨by rfl, ?_⟩) hS ?_
              rotate_left
              · (intro w hSw; (try dsimp only at hSw); go_simp; (try with_reducible rfl))
              try simp only [Act.put, List.setIfInBounds_toArray, List.set_cons_zero, List.set_cons_succ]
              refine wpAnyH_take (i := 23) (oi := { dst := some 148, op := Go.Op.binOp Go.BinOp.add 23 (Go.Operand.tmp 143) (Go.Operand.tmp 147) 23, type := 23, pos := "ref.go:131", after := #[{ on := 18, ground := Go.Ground.data }, { on := 22, ground := Go.Ground.data }], guard := none }) (v := ?_) rfl (by kernel_rfl) (by kernel_rfl) (by kernel_rfl) (fun _ _ _ h => h) (Or.inl ⟨by rfl, ?_⟩) hS ?_
              rotate_left
              · (intro w hSw; (try dsimp only at hSw); go_simp; (try with_reducible rfl))
              try simp only [Act.put, List.setIfInBounds_toArray, List.set_cons_zero, List.set_cons_succ]
              refine wpAnyH_take (i := 27) (oi := { dst := some 152, op := Go.Op.binOp Go.BinOp.add 23 (Go.Operand.tmp 148) (Go.Operand.tmp 151) 23, type := 23, pos := "ref.go:131", after := #[{ on := 23, ground := Go.Ground.data }, { on := 26, ground := Go.Ground.data }], guard := none }) (v := ?_) rfl (by kernel_rfl) (by kernel_rfl) (by kernel_rfl) (fun _ _ _ h => h) (Or.inl ⟨by rfl, ?_⟩) hS ?_
              rotate_left
              · (intro w hSw; (try dsimp only at hSw); go_simp; (try with_reducible rfl))
              try simp only [Act.put, List.setIfInBounds_toArray, List.set_cons_zero, List.set_cons_succ]
              refine wpAnyH_take (i := 28) (oi := { dst := some 20, op := Go.Op.assign (Go.Operand.tmp 152), type := 23, pos := "ref.go:131", after := #[{ on := 27, ground := Go.Ground.data }, { on := 7, ground := Go.Ground.chain }, { on := 0, ground := Go.Ground.phase }, { on := 1, ground := Go.Ground.phase }, { on := 2, ground := Go.Ground.phase }, { on := 3, ground := Go.Ground.phase }, { on := 4, ground := Go.Ground.phase }, { on := 5, ground := Go.Ground.phase }, { on := 6, ground := Go.Ground.phase }, { on := 7, ground := Go.Ground.phase }, { on := 8, ground := Go.Ground.phase }, { on := 9, ground := Go.Ground.phase }, { on := 10, ground := Go.Ground.phase }, { on := 11, ground := Go.Ground.phase }, { on := 12, ground := Go.Ground.phase }, { on := 13, ground := Go.Ground.phase }, { on := 14, ground := Go.Ground.phase }, { on := 15, ground := Go.Ground.phase }, { on := 16, ground := Go.Ground.phase }, { on := 17, ground := Go.Ground.phase }, { on := 18, ground := Go.Ground.phase }, { on := 19, ground := Go.Ground.phase }, { on := 20, ground := Go.Ground.phase }, { on := 21, ground := Go.Ground.phase }, { on := 22, ground := Go.Ground.phase }, { on := 23, ground := Go.Ground.phase }, { on := 24, ground := Go.Ground.phase }, { on := 25, ground := Go.Ground.phase }, { on := 26, ground := Go.Ground.phase }, { on := 27, ground := Go.Ground.phase }], guard := none }) (v := ?_) rfl (by kernel_rfl) (by kernel_rfl) (by kernel_rfl) (fun _ _ _ h => h) (Or.inl ⟨by rfl, ?_⟩) hS ?_
              rotate_left
              · (intro w hSw; (try dsimp only at hSw); go_simp; (try with_reducible rfl))
              try simp only [Act.put, List.setIfInBounds_toArray, List.set_cons_zero, List.set_cons_succ]
              refine wpAnyH_done (by kernel_rfl) ?_ _
              clear e1 e2 e3 hS hE hED hE2 hE3
              go_wp2_with (first
                | go_skip
                | (go_at_call 21; (with_reducible (refine (rotr_2 u.a huo.a _).mono ?_)); rintro e w5 ⟨_, rfl, rfl, hk1⟩; have hE5 := hk1 _ hE4; clear hk1 hE4)
                | (go_at_call 21; (with_reducible (refine (rotr_13 u.a huo.a _).mono ?_)); rintro e w5 ⟨_, rfl, rfl, hk1⟩; have hE6 := hk1 _ hE5; clear hk1 hE5)
                | (go_at_call 21; (with_reducible (refine (rotr_22 u.a huo.a _).mono ?_)); rintro e w5 ⟨_, rfl, rfl, hk1⟩; have hE7 := hk1 _ hE6; clear hk1 hE6))
              go_roundw
              case rel => exact ⟨k + 1, ⟨na, u.a, u.b, u.c, ne, u.e, u.f, u.g⟩, hk64, by simp, Hrn.out.symm, rfl, rfl, rfl, rfl, rfl, rfl, rfl, rfl, hE7⟩
              case measure => simp [intOf]; omega
            · obtain rfl : k = 64 := by omega
              simp only [show ((64 : Nat) : Int) = 64 from rfl]
              have hadd : addW v u = eat v bj := by rw [Hu.out]; rfl
              have Hadd := SL.hid hadd
              clear hadd
              go_wp2_with (first
                | go_skip
                | ((with_reducible (show Go.wpList _ _ _ (Go.Oper.mk _ (.alloc _) _ _ _ _ :: _) _ _)); refine wpl_allocN hE rfl rfl (n := 8) (by kernel_rfl) ?_; clear hE; intro bl cs w6 hq8 hE1)
                | ((with_reducible (show Go.wpList _ _ _ (Go.Oper.mk _ (.store _ _ _) _ _ _ _ :: _) _ _)); refine wpl_storeN hE1 0 rfl rfl rfl (xs := u.list.map u32v) rfl rfl Tryd.sizeOf38 rfl (u32_one u.list) hq8 ?_; clear hE1 hq8; intro w7 hE2; simp only [List.set_cons_zero] at hE2))
              have hE3 : Ent (u32c bt 45 (kTab ++ mix v u 0) :: u32c bl 38 u.list :: u32c bw 43 (wst bj 64) :: row 23 1 (.slice (some ⟨g, 0, none⟩) n4 c) n4 ((wordsOf p n4).map u32v) :: pt br (.cells rs.toArray 32 (0, 0)) :: l) w7 := hE2.front 2 rfl
              clear hE2
              go_loopw [23] (fun i wr => HRel v u bt (u32c bl 38 u.list :: u32c bw 43 (wst bj 64) :: row 23 1 (.slice (some ⟨g, 0, none⟩) n4 c) n4 ((wordsOf p n4).map u32v) :: pt br (.cells rs.toArray 32 (0, 0)) :: l) i wr) (fun i _ => 8 - (intOf i).toNat)
              case atStart => exact ⟨0, by omega, rfl, hE3⟩
              case round =>
                clear hE3
                obtain ⟨k, hk, rfl, hE⟩ := hrel
                by_cases hk8 : k < 8
                · have ik : (k : Int) < 8 := by omega
                  have c0 := u32_at hE.drew 0 rfl (k := 64 + k) (by rw [tab_len v u hk8]; omega)
                  rw [tab_get v u hk8] at c0
                  have f0 := hE.drew.frozen 0 rfl (64 + k)
                  have hset := tab_set v u hk8
                  have Hx1 : RowKit.Hid (∀ (wx : World) (A : HProp) (F : List HProp), Ent (A :: u32c bl 38 u.list :: F) wx → wx.cell? ⟨bl, k, none⟩ = some (.int .u32 ((u.list.getD k 0 : Nat) : Int))) := SL.hid (fun wx A F hx => u32_at hx 1 rfl hk8)
                  have g1 := sum_u32 (v.list.getD k 0) (u.list.getD k 0)
                  generalize (v.list.getD k 0 + u.list.getD k 0) % 4294967296 = ns at *
                  generalize v.list.getD k 0 = y at *
                  generalize u.list.getD k 0 = x at *
                  have Hset := SL.hid hset
                  clear hset
                  go_wp2_with (first | go_skip)
                  refine wp_region_held_drew (S := (fun w' => w'.cell? ⟨bl, k, none⟩ = some (.int .u32 (x : Int)))) (by kernel_rfl) (Hx1.out _ _ _ hE.drew) (fun hS => ?_)
                  refine wpAnyH_take (i := 0) (oi := { dst := some 198, op := Go.Op.move (Go.Operand.tmp 23), type := 3, pos := "ref.go:144", after := #[], guard := none }) (v := ?_) rfl (by kernel_rfl) (by kernel_rfl) (by kernel_rfl) (fun _ _ _ h => h) (Or.inl ⟨by rfl, ?_⟩) hS ?_
                  rotate_left
                  · (intro w hSw; (try dsimp only at hSw); go_simp; (try with_reducible rfl))
                  try simp only [Act.put, List.setIfInBounds_toArray, List.set_cons_zero, List.set_cons_succ]
                  refine wpAnyH_take (i := 1) (oi := { dst := some 199, op := Go.Op.move (Go.Operand.tmp 23), type := 3, pos := "ref.go:144", after := #[], guard := none }) (v := ?_) rfl (by kernel_rfl) (by kernel_rfl) (by kernel_rfl) (fun _ _ _ h => h) (Or.inl ⟨by rfl, ?_⟩) hS ?_
                  rotate_left
                  · (intro w hSw; (try dsimp only at hSw); go_simp; (try with_reducible rfl))
                  try simp only [Act.put, List.setIfInBounds_toArray, List.set_cons_zero, List.set_cons_succ]
                  refine wpAnyH_take (i := 2) (oi := { dst := some 200, op := Go.Op.fieldAddr 45 (Go.Operand.tmp 2) 1, type := 0, pos := "ref.go:144", after := #[], guard := none }) (v := ?_) rfl (by kernel_rfl) (by kernel_rfl) (by kernel_rfl) (fun _ _ _ h => h) (Or.inl ⟨by rfl, ?_⟩) hS ?_
                  rotate_left
                  · (intro w hSw; (try dsimp only at hSw); go_simp; (try with_reducible rfl))
                  try simp only [Act.put, List.setIfInBounds_toArray, List.set_cons_zero, List.set_cons_succ]
                  refine wpAnyH_take (i := 3) (oi := { dst := some 201, op := Go.Op.indexAddr 38 (Go.Operand.tmp 200) (Go.Operand.tmp 199), type := 0, pos := "ref.go:144", after := #[{ on := 2, ground := Go.Ground.data }, { on := 1, ground := Go.Ground.data }], guard := none }) (v := ?_) rfl (by kernel_rfl) (by kernel_rfl) (by kernel_rfl) (fun _ _ _ h => h) (Or.inl ⟨by rfl, ?_⟩) hS ?_
                  rotate_left
                  · (intro w hSw; (try dsimp only at hSw); go_simp; (try with_reducible rfl))
                  try simp only [Act.put, List.setIfInBounds_toArray, List.set_cons_zero, List.set_cons_succ]
                  refine wpAnyH_take (i := 5) (oi := { dst := some 203, op := Go.Op.move (Go.Operand.tmp 23), type := 3, pos := "ref.go:144", after := #[], guard := none }) (v := ?_) rfl (by kernel_rfl) (by kernel_rfl) (by kernel_rfl) (fun _ _ _ h => h) (Or.inl ⟨by rfl, ?_⟩) hS ?_
                  rotate_left
                  · (intro w hSw; (try dsimp only at hSw); go_simp; (try with_reducible rfl))
                  try simp only [Act.put, List.setIfInBounds_toArray, List.set_cons_zero, List.set_cons_succ]
                  refine wpAnyH_take (i := 6) (oi := { dst := some 204, op := Go.Op.indexAddr 38 (Go.Operand.tmp 22) (Go.Operand.tmp 203), type := 0, pos := "ref.go:144", after := #[{ on := 5, ground := Go.Ground.data }], guard := none }) (v := ?_) rfl (by kernel_rfl) (by kernel_rfl) (by kernel_rfl) (fun _ _ _ h => h) (Or.inl ⟨by rfl, ?_⟩) hS ?_
                  rotate_left
                  · (intro w hSw; (try dsimp only at hSw); go_simp; (try with_reducible rfl))
                  try simp only [Act.put, List.setIfInBounds_toArray, List.set_cons_zero, List.set_cons_succ]
                  refine wpAnyH_take (i := 7) (oi := { dst := some 205, op := Go.Op.load 23 (Go.Operand.tmp 204), type := 23, pos := "ref.go:144", after := #[{ on := 6, ground := Go.Ground.data }], guard := none }) (v := ?_) rfl (by kernel_rfl) (by kernel_rfl) (by kernel_rfl) (fun _ _ _ h => h) (Or.inl ⟨by rfl, ?_⟩) hS ?_
                  rotate_left
                  · (intro w hSw; (try dsimp only at hSw); go_simp; (try with_reducible rfl))
                  try simp only [Act.put, List.setIfInBounds_toArray, List.set_cons_zero, List.set_cons_succ]
                  refine wpAnyH_take (i := 9) (oi := { dst := some 207, op := Go.Op.fieldAddr 45 (Go.Operand.tmp 2) 1, type := 0, pos := "ref.go:144", after := #[], guard := none }) (v := ?_) rfl (by kernel_rfl) (by kernel_rfl) (by kernel_rfl) (fun _ _ _ h => h) (Or.inl ⟨by rfl, ?_⟩) hS ?_
                  rotate_left
                  · (intro w hSw; (try dsimp only at hSw); go_simp; (try with_reducible rfl))
                  try simp only [Act.put, List.setIfInBounds_toArray, List.set_cons_zero, List.set_cons_succ]
                  refine wpAnyH_ready (rs := [4]) (by kernel_rfl) (by simp) ?_
                  refine (AllReadyH.cons (o := { dst := some 202, op := Go.Op.load 23 (Go.Operand.tmp 201), type := 23, pos := "ref.go:144", after := #[{ on := 3, ground := Go.Ground.data }], guard := none }) rfl (fun K hK => ?_) AllReadyH.nil)
                  go_simp
                  refine hK.out _ _ (Hx1.out _ _ _ hE.drew) (fun hS => ?_)
                  clear hK K
                  try simp only [Act.put, List.setIfInBounds_toArray, List.set_cons_zero, List.set_cons_succ]
                  refine wpAnyH_take (i := 8) (oi := { dst := some 206, op := Go.Op.binOp Go.BinOp.add 23 (Go.Operand.tmp 202) (Go.Operand.tmp 205) 23, type := 23, pos := "ref.go:144", after := #[{ on := 4, ground := Go.Ground.data }, { on := 7, ground := Go.Ground.data }], guard := none }) (v := ?_) rfl (by kernel_rfl) (by kernel_rfl) (by kernel_rfl) (fun _ _ _ h => h) (Or.inl ⟨by rfl, ?_⟩) hS ?_
                  rotate_left
                  · (intro w hSw; (try dsimp only at hSw); go_simp; (try with_reducible rfl))
                  try simp only [Act.put, List.setIfInBounds_toArray, List.set_cons_zero, List.set_cons_succ]
                  refine wpAnyH_take (i := 10) (oi := { dst := some 208, op := Go.Op.indexAddr 38 (Go.Operand.tmp 207) (Go.Operand.tmp 198), type := 0, pos := "ref.go:144", after := #[{ on := 9, ground := Go.Ground.data }, { on := 0, ground := Go.Ground.data }, { on := 0, ground := Go.Ground.phase }, { on := 1, ground := Go.Ground.phase }, { on := 2, ground := Go.Ground.phase }, { on := 3, ground := Go.Ground.phase }, { on := 4, ground := Go.Ground.phase }, { on := 5, ground := Go.Ground.phase }, { on := 6, ground := Go.Ground.phase }, { on := 7, ground := Go.Ground.phase }, { on := 8, ground := Go.Ground.phase }], guard := none }) (v := ?_) rfl (by kernel_rfl) (by kernel_rfl) (by kernel_rfl) (fun _ _ _ h => h) (Or.inl ⟨by rfl, ?_⟩) hS ?_
                  rotate_left
                  · (intro w hSw; (try dsimp only at hSw); go_simp; (try with_reducible rfl))
                  try simp only [Act.put, List.setIfInBounds_toArray, List.set_cons_zero, List.set_cons_succ]
                  refine wpAnyH_ready (rs := [11]) (by kernel_rfl) (by simp) ?_
                  refine (AllReadyH.cons (o := { dst := none, op := Go.Op.store 23 (Go.Operand.tmp 208) (Go.Operand.tmp 206), type := 0, pos := "ref.go:144", after := #[{ on := 10, ground := Go.Ground.data }, { on := 8, ground := Go.Ground.data }, { on := 0, ground := Go.Ground.phase }, { on := 1, ground := Go.Ground.phase }, { on := 2, ground := Go.Ground.phase }, { on := 3, ground := Go.Ground.phase }, { on := 4, ground := Go.Ground.phase }, { on := 5, ground := Go.Ground.phase }, { on := 6, ground := Go.Ground.phase }, { on := 7, ground := Go.Ground.phase }, { on := 8, ground := Go.Ground.phase }], guard := none }) rfl (fun K hK => ?_) AllReadyH.nil)
                  go_simp
                  refine hK.out _ _ (Hx1.out _ _ _ (hE.setCell 0 rfl (64 + k) _).drew) (fun hS => ?_)
                  clear hK K
                  try simp only [Act.put, List.setIfInBounds_toArray, List.set_cons_zero, List.set_cons_succ]
                  refine wpAnyH_done (by kernel_rfl) ?_ _
                  have hF := (hE.setCell 0 rfl (64 + k) (.int .u32 (ns : Int))).drew
                  simp only [List.set_cons_zero] at hF
                  rw [next_ring, Hset.out] at hF
                  clear hS c0 f0 g1 hE
                  go_wp2_with (first | go_skip)
                  go_roundw
                  case rel => exact ⟨k + 1, hk8, by simp, hF⟩
                  case measure => simp [intOf]; omega
                · obtain rfl : k = 8 := by omega
                  simp only [show ((8 : Nat) : Int) = 8 from rfl]
                  have hE3 : Ent (u32c bt 45 (tabH (eat v bj)) :: u32c bl 38 u.list :: u32c bw 43 (wst bj 64) :: row 23 1 (.slice (some ⟨g, 0, none⟩) n4 c) n4 ((wordsOf p n4).map u32v) :: pt br (.cells rs.toArray 32 (0, 0)) :: l) wr := by rw [← Hadd.out]; exact hE
                  clear hE
                  go_wp2_with (first | go_skip)
                  go_roundw
                  case rel => exact ⟨j + 1, h64, by rw [← Hj4.out], by rw [Hsn.out]; exact (hE3.erase 1).erase 1⟩
                  case measure =>
                    have h1 := Hj0.out
                    simp [intOf]; omega
    · have hjl : j = p.length / 64 := by have := Hp64.out; omega
      have hjn : ¬ ((16 * j : Nat) : Int) < (n4 : Int) := by have h1 := Hn4.out; omega
      rw [hjl] at hE
      rw [hjl] at hvok
      generalize hv0 : eatAll hFirst p (p.length / 64) = v at *
      have Hv0 := SL.hid hv0
      generalize 16 * j = j0 at *
      clear hv0 hjl hlt hj
      go_wp2_with (first
        | go_skip
        | ((with_reducible (show Go.wpList _ _ _ (Go.Oper.mk _ (.alloc _) _ _ _ _ :: _) _ _)); refine wpl_allocN hE rfl rfl (n := 32) (by kernel_rfl) ?_; clear hE; intro bo es w1 he hE1))
      have He := SL.hid he
      clear he
      have hE2 : Ent (pt bo (.cells (ostate v es 0).toArray 32 (0, 0)) :: u32c bt 45 (tabH v) :: row 23 1 (.slice (some ⟨g, 0, none⟩) n4 c) n4 ((wordsOf p n4).map u32v) :: pt br (.cells rs.toArray 32 (0, 0)) :: l) w1 := hE1
      clear hE1
      go_loopw [25] (fun i wr => ORel v es bo (u32c bt 45 (tabH v) :: row 23 1 (.slice (some ⟨g, 0, none⟩) n4 c) n4 ((wordsOf p n4).map u32v) :: pt br (.cells rs.toArray 32 (0, 0)) :: l) i wr) (fun i _ => 32 - (intOf i).toNat)
      case atStart => exact ⟨0, by omega, rfl, hE2⟩
      case round =>
        clear hE2
        obtain ⟨k, hk, rfl, hE⟩ := hrel
        by_cases hk32 : k < 32
        · have ik : (k : Int) < 32 := by omega
          obtain ⟨a, b, hab, ha8, hb4⟩ : ∃ a b, k = 4 * a + b ∧ a < 8 ∧ b < 4 := ⟨k / 4, k % 4, by omega, by omega, by omega⟩
          have q1 : ((k : Int)).tdiv 4 = (a : Int) := by rw [Int.tdiv_eq_ediv_of_nonneg (by omega)]; omega
          have q2 : (k : Int) / 4 = (a : Int) := by omega
          have q3 : ((k : Int)).tmod 4 = (b : Int) := by rw [Int.tmod_eq_emod_of_nonneg (by omega)]; omega
          have q4 : (k : Int) % 4 = (b : Int) := by omega
          have q5 : (a : Int) < 8 := by omega
          have q6 : (b : Int) < 4 := by omega
          have hset := ostate_set (v := v) He.out ha8 hb4
          rw [show 4 * a + (b + 1) = k + 1 by omega, ← hab] at hset
          have Hol := SL.hid (ostate_len (v := v) (k := k) He.out (by omega))
          have c0 := u32_at hE 1 rfl (k := 64 + a) (show 64 + a < 72 by omega)
          rw [tabH_get v ha8] at c0
          generalize v.list.getD a 0 = x at *
          have c1 := byte_of (x / 2 ^ (24 - 8 * b))
          have c2 := byte_of' (x / 2 ^ (24 - 8 * b))
          have hsh : (x : Int) / 2 ^ (24 - 8 * b) = ((x / 2 ^ (24 - 8 * b) : Nat) : Int) := by simp
          generalize UInt8.ofNat (x / 2 ^ (24 - 8 * b)) = xb at *
          generalize x / 2 ^ (24 - 8 * b) = sh at *
          have Hset := SL.hid hset
          clear hset hab
          go_wp2_with (first
            | go_skip
            | ((with_reducible (show Go.wpList _ _ _ (Go.Oper.mk _ (.store _ _ _) _ _ _ _ :: _) _ _)); refine wpl_set1 hE 0 rfl rfl rfl (off := k) rfl (v := bval xb) rfl Tryd.sizeOf5 rfl rfl (by rw [Hol.out]; exact hk32) ?_; clear hE c0; intro w5 hE; simp only [List.set_cons_zero] at hE; rw [Hset.out] at hE))
          go_roundw
          case rel => exact ⟨k + 1, hk32, by simp, hE⟩
          case measure => simp [intOf]; omega
        · obtain rfl : k = 32 := by omega
          simp only [show ((32 : Nat) : Int) = 32 from rfl]
          have hfin : ostate v es 32 = bvals (outOf v) := by
            unfold ostate
            rw [List.take_of_length_le (by rw [outOf_len]; omega), List.drop_of_length_le (by rw [He.out]; omega), List.append_nil]
          rw [hfin] at hE
          have hsl : (bvals (outOf v)).length = 32 := by rw [bvals_length]; rfl
          have hone := bvals_one (outOf v)
          generalize hys : bvals (outOf v) = ys at *
          have Hys := SL.hid hys
          have Hsl := SL.hid hsl
          have Hone := SL.hid hone
          clear hfin hsl hone hys
          go_wp2_with (first
            | go_skip
            | ((with_reducible (show Go.wpList _ _ _ (Go.Oper.mk _ (.load _ _) _ _ _ _ :: _) _ _)); refine wpl_loadW hE 0 rfl rfl rfl rfl Tryd.isAgg32 Tryd.sizeOf32 Hsl.out ?_)
            | ((with_reducible (show Go.wpList _ _ _ (Go.Oper.mk _ (.store _ _ _) _ _ _ _ :: _) _ _)); refine wpl_storeN hE 3 rfl rfl rfl (xs := ys) rfl rfl Tryd.sizeOf32 Hsl.out Hone.out Hq.out ?_; clear hE; intro w9 hE; simp only [List.set_cons_zero, List.set_cons_succ] at hE))
          refine bodyPost_ret (results_cellA rfl hE 3 rfl rfl Tryd.isAgg32 Tryd.sizeOf32 Hsl.out) rfl ⟨_, rfl, by rw [← Hys.out, Hv0.out], hE.tail.tail.tail.tail⟩
end Go.Proofs.YtpchnmcofkffiaaDoor
